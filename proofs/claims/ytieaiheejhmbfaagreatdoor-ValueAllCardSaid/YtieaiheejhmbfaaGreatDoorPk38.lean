/- The plain laws of the enumeration: what is yielded, its cells; the reference's bound. No conditions. -/
import Derived.Test.YtieaiheejhmbfaaGreatDoorPk14
import Derived.Test.YtieaiheejhmbfaaGreatDoorPk16
import Derived.Test.YtieaiheejhmbfaaGreatDoorPk20
import Derived.Test.YtieaiheejhmbfaaGreatDoorPk24
namespace Go.Proofs.YtieaiheejhmbfaaGreatDoor.ML
open Go.RowKit
set_option linter.unusedVariables false
set_option linter.unusedSimpArgs false
/-! ### Lists cut at a length -/
theorem take_pre {α : Type} {m : Nat} {a b : List α} (h : a <+: b) (h2 : b.length ≤ a.length ∨ m ≤ (a.take m).length) : a.take m = b.take m := by
  obtain ⟨r, rfl⟩ := h
  rcases h2 with h2 | h2
  · have : r = [] := List.eq_nil_of_length_eq_zero (by simp at h2; omega)
    rw [this, List.append_nil]
  · rw [List.length_take] at h2
    rw [List.take_append_of_le_length (by omega)]
theorem take_push {α : Type} {m : Nat} {a : List α} {x : α} (h : (a.take m).length < m) : a.take m ++ [x] = (a ++ [x]).take m := by
  rw [List.length_take] at h
  rw [List.take_of_length_le (by omega : a.length ≤ m), List.take_of_length_le (by simp; omega)]
theorem take_app_take {α : Type} {m : Nat} (a b : List α) : (a ++ b.take m).take m = (a ++ b).take m := by
  rw [List.take_append, List.take_append, List.take_take, Nat.min_eq_left (by omega)]
theorem take_take_pre {α : Type} (i m : Nat) (l : List α) : (l.take m).take i <+: l := (List.take_prefix _ _).trans (List.take_prefix _ _)
theorem pre_map {α β : Type} {f : α → β} {a b : List α} (P : List β) (h : a <+: b) : P ++ a.map f <+: P ++ b.map f := by
  obtain ⟨r, rfl⟩ := h
  exact ⟨r.map f, by simp⟩
theorem take_flat_in {α β γ : Type} {m : Nat} (f : α → β → γ) (Y : List β) : ∀ (X : List α), (X.flatMap fun v => (Y.take m).map (f v)).take m = (X.flatMap fun v => Y.map (f v)).take m
  | [] => rfl
  | v :: X => by
    rcases Nat.lt_or_ge Y.length m with h | h
    · rw [List.take_of_length_le (Nat.le_of_lt h)]
    · rw [List.flatMap_cons, List.flatMap_cons, List.take_append_of_le_length (by simp; omega), List.take_append_of_le_length (by simp; omega), List.map_take, List.take_take, Nat.min_self]
theorem len_flat {α β γ : Type} (f : α → β → γ) (Y : List β) (hY : 0 < Y.length) : ∀ (X : List α), X.length ≤ (X.flatMap fun v => Y.map (f v)).length
  | [] => Nat.zero_le _
  | v :: X => by have := len_flat f Y hY X; simp only [List.flatMap_cons, List.length_append, List.length_map, List.length_cons]; omega
theorem take_flat_out {α β γ : Type} {m : Nat} (f : α → β → γ) (Y : List β) (X : List α) : ((X.take m).flatMap fun v => Y.map (f v)).take m = (X.flatMap fun v => Y.map (f v)).take m := by
  rcases Nat.eq_zero_or_pos Y.length with h | h
  · have : Y = [] := List.eq_nil_of_length_eq_zero h
    subst this
    have e : ∀ l : List α, (l.flatMap fun _ => ([] : List γ)) = [] := fun l => by induction l with | nil => rfl | cons a l ih => rw [List.flatMap_cons, ih]; rfl
    simp only [List.map_nil]; rw [e, e]
  · rcases Nat.lt_or_ge X.length m with hx | hx
    · rw [List.take_of_length_le (Nat.le_of_lt hx)]
    · refine take_pre ?_ (.inr ?_)
      · refine ⟨(X.drop m).flatMap fun v => Y.map (f v), ?_⟩
        rw [← List.flatMap_append, List.take_append_drop]
      · have := len_flat f Y h (X.take m)
        rw [List.length_take] at this ⊢
        omega
theorem take_two {α β γ : Type} {m : Nat} (f : α → β → γ) (P : List γ) (X : List α) (Y : List β) : (P ++ (X.take m).flatMap fun v => (Y.take m).map (f v)).take m = (P ++ X.flatMap fun v => Y.map (f v)).take m := by
  rw [← take_app_take P, take_flat_in f Y, take_flat_out f Y, take_app_take]
/-! ### The rounds of the reference's loops -/
def lsG (ex : Int → Nat → List VT) (t : Int) (ts : List Int) (k j : Nat) : List (List VT) := (ex t j).flatMap fun v => (lsV ex ts (k - j)).map (v :: ·)
def lsQ (ex : Int → Nat → List VT) (t : Int) (ts : List Int) (k j : Nat) : List (List VT) := (List.range j).flatMap (lsG ex t ts k)
theorem lsQ_0 (ex : Int → Nat → List VT) (t : Int) (ts : List Int) (k : Nat) : lsQ ex t ts k 0 = [] := rfl
theorem lsQ_succ (ex : Int → Nat → List VT) (t : Int) (ts : List Int) (k j : Nat) : lsQ ex t ts k (j + 1) = lsQ ex t ts k j ++ lsG ex t ts k j := by
  rw [lsQ, List.range_succ, List.flatMap_append]; simp [lsQ]
theorem lsQ_end (ex : Int → Nat → List VT) (t : Int) (ts : List Int) (k : Nat) : lsV ex (t :: ts) k = lsQ ex t ts k (k + 1) := by rw [lsV]; rfl
theorem range_pre {j k : Nat} (h : j ≤ k) : List.range j <+: List.range k := by
  obtain ⟨r, rfl⟩ : ∃ r, k = j + r := ⟨k - j, by omega⟩
  exact ⟨_, (List.range_add ..).symm⟩
theorem pre_flat {α β : Type} {f : α → List β} {a b : List α} (h : a <+: b) : a.flatMap f <+: b.flatMap f := by
  obtain ⟨r, rfl⟩ := h
  exact ⟨r.flatMap f, by simp⟩
theorem lsQ_pre (ex : Int → Nat → List VT) (t : Int) (ts : List Int) (k : Nat) {j j' : Nat} (h : j ≤ j') : lsQ ex t ts k j <+: lsQ ex t ts k j' := pre_flat (range_pre h)
theorem take_nil_of {α : Type} {m : Nat} {l : List α} (hm : 0 < m) (h : (l.take m).length = 0) : l = [] := by
  rw [List.length_take] at h
  exact List.eq_nil_of_length_eq_zero (by omega)
def cqV (ls : List Int → Nat → List (List VT)) (k : Nat) (cs : List CT) (c : Nat) : List VT := consV ls k 0 (cs.take c)
theorem consV_app (ls : List Int → Nat → List (List VT)) (k : Nat) : ∀ (a b : List CT) (i : Nat), consV ls k i (a ++ b) = consV ls k i a ++ consV ls k (i + a.length) b
  | [], b, i => rfl
  | x :: a, b, i => by rw [List.cons_append, consV, consV, consV_app ls k a b, List.append_assoc, List.length_cons, show i + 1 + a.length = i + (a.length + 1) by omega]
theorem cqV_succ (ls : List Int → Nat → List (List VT)) (k : Nat) (cs : List CT) (c : Nat) (h : c < cs.length) : cqV ls k cs (c + 1) = cqV ls k cs c ++ conV ls k c cs[c] := by
  rw [cqV, take_succ _ _ h, consV_app, cqV, consV, consV, List.append_nil, List.length_take, Nat.zero_add, Nat.min_eq_left (by omega)]
theorem cqV_pre (ls : List Int → Nat → List (List VT)) (k : Nat) (cs : List CT) (c : Nat) : cqV ls k cs c <+: consV ls k 0 cs := by
  refine ⟨consV ls k (0 + (cs.take c).length) (cs.drop c), ?_⟩
  rw [cqV, ← consV_app, List.take_append_drop]
theorem cqV_end (ls : List Int → Nat → List (List VT)) (k : Nat) (cs : List CT) (c : Nat) (h : cs.length ≤ c) : cqV ls k cs c = consV ls k 0 cs := by rw [cqV, List.take_of_length_le h]
def alQ (d : List DT) (t : Int) (k : Nat) : List VT := (List.range k).flatMap fun k => exV d t k
theorem alQ_succ (d : List DT) (t : Int) (k : Nat) : alQ d t (k + 1) = alQ d t k ++ exV d t k := by
  rw [alQ, List.range_succ, List.flatMap_append]; simp [alQ]
theorem alQ_pre (d : List DT) (t : Int) {j j' : Nat} (h : j ≤ j') : alQ d t j <+: alQ d t j' := pre_flat (range_pre h)
/-! ### Cells -/
mutual
def ceV : VT → Nat
  | .mk _ _ l => (if 0 < l.length then 1 else 0) + ceL l
def ceL : List VT → Nat
  | [] => 0
  | v :: l => ceV v + ceL l
end
theorem con_mem {ls : List Int → Nat → List (List VT)} {k i : Nat} {c : CT} {v : VT} (h : v ∈ conV ls k i c) : (c.fields = [] ∧ k = 0 ∧ v = ⟨0, i, []⟩) ∨ (c.fields ≠ [] ∧ k ≠ 0 ∧ ∃ l ∈ ls c.fields (k - 1), v = ⟨0, i, l⟩) := by
  unfold conV at h
  split at h
  · rename_i h0
    split at h
    · rename_i hk
      exact .inl ⟨List.eq_nil_of_length_eq_zero h0, hk, by simpa using h⟩
    · simp at h
  · rename_i h0
    split at h
    · simp at h
    · rename_i hk
      obtain ⟨l, hl, e⟩ := List.mem_map.1 h
      exact .inr ⟨fun e => h0 (by rw [e]; rfl), hk, l, hl, e.symm⟩
theorem cons_mem {ls : List Int → Nat → List (List VT)} {k : Nat} {v : VT} : ∀ (cs : List CT) (i : Nat), v ∈ consV ls k i cs → ∃ j, ∃ h : j < cs.length, v ∈ conV ls k (i + j) cs[j]
  | [], i, h => by simp [consV] at h
  | c :: cs, i, h => by
    rw [consV] at h
    rcases List.mem_append.1 h with h | h
    · exact ⟨0, by simp, by simpa using h⟩
    · obtain ⟨j, hj, h⟩ := cons_mem cs (i + 1) h
      exact ⟨j + 1, by simpa using hj, by rw [show i + (j + 1) = i + 1 + j by omega]; simpa using h⟩
theorem ls_mem {ex : Int → Nat → List VT} : ∀ (ts : List Int) (k : Nat) (l : List VT), l ∈ lsV ex ts k → l.length = ts.length ∧ ∃ js : List Nat, js.length = ts.length ∧ js.sum = k ∧ ∀ i (h : i < l.length) (h1 : i < ts.length) (h2 : i < js.length), l[i] ∈ ex ts[i] js[i]
  | [], k, l, h => by
    rw [lsV] at h
    split at h
    · rename_i hk
      have : l = [] := by simpa using h
      subst this
      exact ⟨rfl, [], rfl, by simp [hk], fun i h => by simp at h⟩
    · simp at h
  | t :: ts, k, l, h => by
    rw [lsV] at h
    obtain ⟨j, hj, h⟩ := List.mem_flatMap.1 h
    obtain ⟨v, hv, h⟩ := List.mem_flatMap.1 h
    obtain ⟨l', hl, rfl⟩ := List.mem_map.1 h
    obtain ⟨h1, js, h2, h3, h4⟩ := ls_mem ts (k - j) l' hl
    rw [List.mem_range] at hj
    refine ⟨by simp [h1], j :: js, by simp [h2], by simp [h3]; omega, fun i a b c => ?_⟩
    cases i with
    | zero => exact hv
    | succ i => simpa using h4 i (by simpa using a) (by simpa using b) (by simpa using c)
theorem ceL_sum : ∀ (l : List VT) (js : List Nat), js.length = l.length → (∀ i (h : i < l.length) (h' : i < js.length), ceV l[i] = js[i]) → ceL l = js.sum
  | [], [], _, _ => by rw [ceL]; rfl
  | [], _ :: _, h, _ => by simp at h
  | _ :: _, [], h, _ => by simp at h
  | v :: l, j :: js, h, hs => by
    rw [ceL, ceL_sum l js (by simpa using h) (fun i a b => hs (i + 1) (by simpa using a) (by simpa using b)), List.sum_cons]
    have := hs 0 (by simp) (by simp)
    simp at this
    rw [this]
theorem ex_sz (d : List DT) : ∀ (n : Nat) (t : Int) (k : Nat) (v : VT), v ∈ exA d n t k → ceV v = k
  | 0, _, _, v, h => by simp [exA] at h
  | n + 1, t, k, v, h => by
    rw [exA] at h
    split at h
    · split at h
      · rename_i hk
        simp at h
        rcases h with rfl | rfl <;> simp [ceV, ceL, hk]
      · simp at h
    · obtain ⟨j, hj, h⟩ := cons_mem _ _ h
      rcases con_mem h with ⟨_, hk, rfl⟩ | ⟨hf, hk, l, hl, rfl⟩
      · simp [ceV, ceL, hk]
      · obtain ⟨h1, js, h2, h3, h4⟩ := ls_mem _ _ _ hl
        have h5 := ceL_sum l js (by omega) fun i a b => ex_sz d n _ _ _ (h4 i a (by omega) b)
        have : 0 < l.length := by
          rw [h1]; exact List.length_pos_iff.2 hf
        rw [ceV, if_pos this, h5, h3]
        omega
theorem ex_ty (d : List DT) (hT : TypedP d) : ∀ (n : Nat) (t : Int) (k : Nat) (v : VT), (0 ≤ t ∧ t ≤ d.length) → v ∈ exA d n t k → TyV d t v
  | 0, _, _, v, _, h => by simp [exA] at h
  | n + 1, t, k, v, ht, h => by
    rw [exA] at h
    split at h
    · rename_i h0
      subst h0
      split at h
      · simp at h
        rcases h with rfl | rfl <;> exact .int
      · simp at h
    · obtain ⟨p, rfl⟩ : ∃ p : Nat, t = (p : Int) + 1 := ⟨(t - 1).toNat, by omega⟩
      have hp : p < d.length := by omega
      rw [consF_at d p hp] at h
      obtain ⟨j, hj, h⟩ := cons_mem _ _ h
      rw [Nat.zero_add] at h
      rcases con_mem h with ⟨hf, hk, rfl⟩ | ⟨hf, hk, l, hl, rfl⟩
      · exact .con hp hj (by simp [hf]) fun i h1 => by simp at h1
      · obtain ⟨h1, js, h2, h3, h4⟩ := ls_mem _ _ _ hl
        exact .con hp hj h1 fun i a b => ex_ty d hT n _ _ _ (hT p hp j hj _ (List.getElem_mem b)) (h4 i a b (by omega))
/-! ### No value twice -/
theorem map_nodup {α β : Type} {f : α → β} (hf : ∀ a b, f a = f b → a = b) {l : List α} (h : l.Nodup) : (l.map f).Nodup := by
  rw [List.Nodup, List.pairwise_map]
  exact h.imp fun hne e => hne (hf _ _ e)
theorem ls_nodup {ex : Int → Nat → List VT} (hs : ∀ t j v, v ∈ ex t j → ceV v = j) (hn : ∀ t j, (ex t j).Nodup) : ∀ (ts : List Int) (k : Nat), (lsV ex ts k).Nodup
  | [], k => by rw [lsV]; split <;> simp
  | t :: ts, k => by
    rw [lsV, List.Nodup, List.pairwise_flatMap]
    refine ⟨fun j _ => ?_, ?_⟩
    · rw [List.pairwise_flatMap]
      refine ⟨fun v _ => map_nodup (fun a b e => by simpa using e) (ls_nodup hs hn ts (k - j)), (hn t j).imp fun {a b} hne x hx y hy e => ?_⟩
      obtain ⟨x', _, rfl⟩ := List.mem_map.1 hx
      obtain ⟨y', _, rfl⟩ := List.mem_map.1 hy
      exact hne (by simp at e; exact e.1)
    · refine (List.nodup_range (n := k + 1)).imp fun {a b} hne x hx y hy e => ?_
      obtain ⟨v, hv, hx⟩ := List.mem_flatMap.1 hx
      obtain ⟨w, hw, hy⟩ := List.mem_flatMap.1 hy
      obtain ⟨x', _, rfl⟩ := List.mem_map.1 hx
      obtain ⟨y', _, rfl⟩ := List.mem_map.1 hy
      simp at e
      exact hne (by rw [← hs _ _ _ hv, ← hs _ _ _ hw, e.1])
theorem con_con {ls : List Int → Nat → List (List VT)} {k i : Nat} {c : CT} {v : VT} (h : v ∈ conV ls k i c) : v.con = i := by
  rcases con_mem h with ⟨_, _, rfl⟩ | ⟨_, _, l, _, rfl⟩ <;> rfl
theorem cons_con {ls : List Int → Nat → List (List VT)} {k i : Nat} {cs : List CT} {v : VT} (h : v ∈ consV ls k i cs) : (i : Int) ≤ v.con := by
  obtain ⟨j, _, h⟩ := cons_mem _ _ h
  rw [con_con h]; omega
theorem cons_nodup {ls : List Int → Nat → List (List VT)} (hn : ∀ ts k, (ls ts k).Nodup) (k : Nat) : ∀ (cs : List CT) (i : Nat), (consV ls k i cs).Nodup
  | [], i => by simp [consV]
  | c :: cs, i => by
    rw [consV, List.nodup_append]
    refine ⟨?_, cons_nodup hn k cs (i + 1), fun a ha b hb e => ?_⟩
    · unfold conV
      split
      · split <;> simp
      · split
        · simp
        · exact map_nodup (fun a b e => by simpa using e) (hn _ _)
    · have h1 := con_con ha
      have h2 := cons_con hb
      rw [e] at h1
      omega
theorem ex_nodup (d : List DT) : ∀ (n : Nat) (t : Int) (k : Nat), (exA d n t k).Nodup
  | 0, _, _ => by simp [exA]
  | n + 1, t, k => by
    rw [exA]
    split
    · split <;> simp
    · exact cons_nodup (fun ts k => ls_nodup (fun t j v h => ex_sz d n t j v h) (fun t j => ex_nodup d n t j) ts k) k _ 0
theorem al_nodup (d : List DT) (t : Int) (k : Nat) : (alQ d t k).Nodup := by
  rw [alQ, List.Nodup, List.pairwise_flatMap]
  refine ⟨fun j _ => ex_nodup d (j + 1) t j, (List.nodup_range (n := k)).imp fun {a b} hne x hx y hy e => ?_⟩
  exact hne (by rw [← ex_sz d _ _ _ _ hx, ← ex_sz d _ _ _ _ hy, e])
theorem al_up (d : List DT) (t : Int) (k : Nat) : (alQ d t k).Pairwise fun v w => ceV v ≤ ceV w := by
  rw [alQ, List.pairwise_flatMap]
  refine ⟨fun j _ => ?_, (List.pairwise_lt_range (n := k)).imp fun {a b} hlt x hx y hy => ?_⟩
  · have : ∀ x ∈ exV d t j, ceV x = j := fun x hx => ex_sz d _ _ _ _ hx
    exact List.Pairwise.imp_of_mem (fun {a b} ha hb _ => by rw [this a ha, this b hb]; exact Nat.le_refl _) (ex_nodup d (j + 1) t j)
  · rw [ex_sz d _ _ _ _ hx, ex_sz d _ _ _ _ hy]; omega
mutual
theorem same_eq : ∀ v w : VT, same v w = true → v = w
  | .mk n c l, .mk n' c' l', h => by
    rw [same] at h
    simp only [Bool.and_eq_true, decide_eq_true_eq] at h
    rw [h.1.1, h.1.2, sameL_eq l l' h.2]
theorem sameL_eq : ∀ l l' : List VT, sameL l l' = true → l = l'
  | [], [], _ => rfl
  | [], _ :: _, h => by simp [sameL] at h
  | _ :: _, [], h => by simp [sameL] at h
  | v :: l, w :: l', h => by
    rw [sameL, Bool.and_eq_true] at h
    rw [same_eq v w h.1, sameL_eq l l' h.2]
end
/-! ### What Cells says of it -/
theorem bad_ty {d : List DT} {t : Int} {v : VT} (h : TyV d t v) : badV d t v = false := by
  by_cases h0 : t = 0
  · subst h0
    obtain ⟨h1, h2⟩ := h.intE
    unfold badV
    rw [if_pos rfl, h1, h2]; rfl
  · obtain ⟨p, k, hp, hk, rfl, h1, h2, h3, _⟩ := h.conE h0
    rw [badV_at d p hp, decide_eq_false]
    rintro (hh | hh | hh | hh)
    · exact hh h1
    · omega
    · omega
    · apply hh; rw [h2, h3]; simp [List.getD, hk]
theorem w_ty (d : List DT) : ∀ (z : Nat) (v : VT) (t : Int) (n : Nat), SizeOf.sizeOf v < z → TyV d t v → n + ceV v ≤ 65536 → (wV d (fun (_ : Unit) _ _ => ()) t v n ()).1 = 0 ∧ (wV d (fun (_ : Unit) _ _ => ()) t v n ()).2.1 = n + ceV v
  | 0, _, _, _, hz, _, _ => by omega
  | z + 1, .mk num con l, t, n, hz, hty, hs => by
    have hb := bad_ty hty
    rw [wV, if_neg (by rw [hb]; decide)]
    by_cases h0 : t = 0
    · subst h0
      obtain ⟨h1, h2⟩ := hty.intE
      simp only [VT.args] at h2
      subst h2
      rw [if_pos rfl]
      exact ⟨rfl, by simp [ceV, ceL]⟩
    · obtain ⟨p, k, hp, hk, rfl, h1, h2, h3, h4⟩ := hty.conE h0
      rw [if_neg h0, fldV_at d p hp (.mk num con l) k h2 hk]
      rw [ceV] at hs ⊢
      simp only [VT.args] at h3 h4
      have key : ∀ (ts : List Int) (l : List VT) (n : Nat), l.length = ts.length → (∀ x ∈ l, SizeOf.sizeOf x < z) → (∀ i (h1 : i < l.length) (h2 : i < ts.length), TyV d ts[i] l[i]) → n + ceL l ≤ 65536 → (wL d (fun (_ : Unit) _ _ => ()) ts l n ()).1 = 0 ∧ (wL d (fun (_ : Unit) _ _ => ()) ts l n ()).2.1 = n + ceL l := by
        intro ts l
        induction l generalizing ts with
        | nil => intro n _ _ _ _; rw [wL_nil, ceL]; exact ⟨rfl, rfl⟩
        | cons x l ih =>
          intro n hl hx ht hn
          cases ts with
          | nil => simp at hl
          | cons t ts =>
            rw [ceL] at hn ⊢
            have h5 := w_ty d z x t n (hx x (List.mem_cons_self ..)) (ht 0 (by simp) (by simp)) (by omega)
            rw [wL, List.headD_cons, if_neg (by rw [h5.1]; exact fun h => h rfl), List.tail_cons, h5.2]
            have h6 := ih ts (n + ceV x) (by simpa using hl) (fun y hy => hx y (List.mem_cons_of_mem _ hy)) (fun i a b => ht (i + 1) (by simpa using a) (by simpa using b)) (by omega)
            exact ⟨h6.1, by rw [h6.2]; omega⟩
      have hmem : ∀ x ∈ l, SizeOf.sizeOf x < z := fun x hx => by have := List.sizeOf_lt_of_mem hx; simp at hz; omega
      by_cases hl : 0 < l.length
      · rw [if_pos hl] at hs
        rw [if_neg (show ¬ (0 < l.length ∧ n = 65536) from fun hh => by omega), if_pos hl, if_pos hl]
        have := key d[p].cons[k].fields l (n + 1) h3 hmem h4 (by omega)
        exact ⟨this.1, by rw [this.2]; omega⟩
      · rw [if_neg hl] at hs
        rw [if_neg (show ¬ (0 < l.length ∧ n = 65536) from fun hh => hl hh.1), if_neg hl, if_neg hl]
        have := key d[p].cons[k].fields l n h3 hmem h4 (by omega)
        exact ⟨this.1, by rw [this.2]; omega⟩
theorem cells_ty2 {d : List DT} {t : Int} {v : VT} (h : tableF d t = 0) (hty : TyV d t v) (hs : ceV v ≤ 65536) : cellsF d t v = ((ceV v : Int), 0) := by
  have h1 := w_ty d _ v t 0 (Nat.lt_succ_self _) hty (by omega)
  unfold cellsF
  rw [if_neg (fun hh => hh h), if_neg (fun hh => hh h1.1), h1.2, Nat.zero_add]
/-! ### The limit -/
theorem foldN_ge {most : Int} {cl : Int → Int} (hc : ∀ f, 0 ≤ cl f) {ex : Int → Nat → List VT} : ∀ (ts : List Int) (k : Nat) (n m : Int), (∀ t ∈ ts, ∀ j, j ≤ k → ex t j ≠ [] → (j : Int) ≤ most → (j : Int) ≤ cl t) → lsV ex ts k ≠ [] → 0 ≤ m → m ≤ n → m + k ≤ most → m + k ≤ ts.foldl (stepN most cl) n
  | [], k, n, m, _, hne, _, hmn, hk => by
    rw [lsV] at hne
    split at hne
    · rw [List.foldl_nil]; omega
    · exact absurd rfl hne
  | t :: ts, k, n, m, hex, hne, hm, hmn, hk => by
    obtain ⟨l, hl⟩ := List.exists_mem_of_ne_nil _ hne
    rw [lsV] at hl
    obtain ⟨j, hj, hl⟩ := List.mem_flatMap.1 hl
    obtain ⟨v, hv, hl⟩ := List.mem_flatMap.1 hl
    obtain ⟨l', hl2, rfl⟩ := List.mem_map.1 hl
    rw [List.mem_range] at hj
    have h1 := hex t (List.mem_cons_self ..) j (by omega) (List.ne_nil_of_mem hv) (by omega)
    have h2 : m + j ≤ stepN most cl n t := by unfold stepN; split <;> omega
    have h3 := foldN_ge hc ts (k - j) (stepN most cl n t) (m + j) (fun t' ht' i hi => hex t' (List.mem_cons_of_mem _ ht') i (by omega)) (List.ne_nil_of_mem hl2) (by omega) h2 (by omega)
    rw [List.foldl_cons]
    omega
theorem bestN_ge {most : Int} {cl : Int → Int} : ∀ (cs : List CT) (b : Int), b ≤ bestN most cl cs b ∧ ∀ c ∈ cs, sumN most cl c.fields ≤ bestN most cl cs b
  | [], b => ⟨Int.le_refl _, fun c hc => by simp at hc⟩
  | c :: cs, b => by
    have := bestN_ge (most := most) (cl := cl) cs (if sumN most cl c.fields > b then sumN most cl c.fields else b)
    have e : bestN most cl (c :: cs) b = bestN most cl cs (if sumN most cl c.fields > b then sumN most cl c.fields else b) := rfl
    rw [e]
    refine ⟨?_, fun x hx => ?_⟩
    · have h1 := this.1; split at h1 <;> omega
    · rcases List.mem_cons.1 hx with rfl | hx
      · have h1 := this.1; split at h1 <;> omega
      · exact this.2 x hx
theorem cl_ge {d : List DT} (hT : TypedP d) {most : Int} (hm : 0 ≤ most) : ∀ (s : Nat) (t : Int) (n k : Nat), (reachF d t).length < s → (∀ u ∈ reachF d t, recF d u = false) → (0 ≤ t ∧ t ≤ d.length) → exA d n t k ≠ [] → (k : Int) ≤ most → (k : Int) ≤ clF d most s t
  | 0, _, _, _, hs, _, _, _, _ => by omega
  | s + 1, t, 0, k, hs, hr, ht, hne, hk => absurd (by rw [exA]) hne
  | s + 1, t, n + 1, k, hs, hr, ht, hne, hk => by
    obtain ⟨v, hv⟩ := List.exists_mem_of_ne_nil _ hne
    rw [exA] at hv
    rw [clF]
    split at hv
    · rename_i h0
      split at hv
      · rename_i hk0; rw [if_pos h0, hk0]; exact Int.le_refl _
      · simp at hv
    · rename_i h0
      rw [if_neg h0]
      obtain ⟨j, hj, hv⟩ := cons_mem _ _ hv
      have hb := bestN_ge (most := most) (cl := clF d most s) (consF d t) 0
      rcases con_mem hv with ⟨hf, hk0, _⟩ | ⟨hf, hk0, l, hl, _⟩
      · have := hb.1; omega
      · refine Int.le_trans ?_ (hb.2 _ (List.getElem_mem hj))
        have hfm : ∀ f ∈ (consF d t)[j].fields, f ∈ fieldsF d t := fun f hf => List.mem_flatMap.2 ⟨_, List.getElem_mem hj, hf⟩
        have := foldN_ge (most := most) (cl := clF d most s) (fun f => (clF_bd hm s f).1) (ex := exA d n) (consF d t)[j].fields (k - 1) 1 1 (fun f hf i _ hi hi2 => by
          have hff := hfm f hf
          have hlt := reach_less (typed_fields hT) ht hff (hr _ (reach_closed (typed_fields hT) ht).1)
          exact cl_ge hT hm s f n i (by omega) (fun u hu => hr u (reach_sub (typed_fields hT) ht hff hu)) (typed_fields hT _ _ hff) hi hi2) (List.ne_nil_of_mem hl) (by omega) (by omega) (by omega)
        unfold sumN
        rw [if_neg hf]
        omega
theorem ex_lim {d : List DT} (hT : TypedP d) (hd8 : d.length ≤ 1000000) {most : Int} (hm : 0 ≤ most) {t : Int} (ht : 0 ≤ t ∧ t ≤ d.length) {k : Nat} (hk : (k : Int) ≤ most) (hne : exV d t k ≠ []) : (k : Int) ≤ limF d t most := by
  have hrl := (reach_ok d t).len
  unfold limF
  split
  · exact hk
  · rename_i hr
    have hr' : (reachF d t).any (recF d) = false := by simpa using hr
    have := cl_ge hT hm (d.length + 3) t (k + 1) k (by omega) (fun u hu => by rw [List.any_eq_false] at hr'; simpa using hr' u hu) ht hne hk
    split <;> omega
/-- The reference's enumeration is the program's. -/
theorem all_alQ {d : List DT} (hck : checkF d = 0) {t : Int} (ht : 0 ≤ t ∧ t ≤ d.length) {most : Nat} : allV d t most = alQ d t (most + 1) := by
  have hT := (checkF_ok hck).2.2.2.1
  have hdl := (checkF_bd hck).2
  have h0 : tableF d t = 0 := by unfold tableF; rw [if_neg (fun hh => hh hck), if_neg (by omega)]
  have hb := limF_bd d t (most := most) (by omega)
  rw [allV, if_neg (by rintro (h | h); exact h h0; omega)]
  obtain ⟨r, hr⟩ : ∃ r, most + 1 = (limF d t most).toNat + 1 + r := ⟨most - (limF d t most).toNat, by omega⟩
  rw [alQ, hr, show List.range ((limF d t most).toNat + 1 + r) = List.range ((limF d t most).toNat + 1) ++ (List.range r).map ((limF d t most).toNat + 1 + ·) from List.range_add, List.flatMap_append]
  have : ((List.range r).map ((limF d t most).toNat + 1 + ·)).flatMap (fun k => exV d t k) = [] := by
    rw [List.flatMap_eq_nil_iff]
    intro k hk
    obtain ⟨i, hi, rfl⟩ := List.mem_map.1 hk
    rw [List.mem_range] at hi
    refine Classical.byContradiction fun hne => ?_
    have := ex_lim hT (by omega) (most := most) (by omega) ht (k := (limF d t most).toNat + 1 + i) (by omega) hne
    omega
  rw [this, List.append_nil]
end Go.Proofs.YtieaiheejhmbfaaGreatDoor.ML
/- Lists of lists of values in memory; the reference's rounds. No conditions. -/
namespace Go.Proofs.YtieaiheejhmbfaaGreatDoor.ML
open Go.RowKit
set_option linter.unusedVariables false
set_option linter.unusedSimpArgs false
/-- A slice of values as an element. -/
def RdL (M : Mem) (b o : Nat) (l : List VT) : Prop := ∃ A c, Mk M b o (.slice A l.length c) ∧ RdS 3 (RdV M) A c l ∧ (l = [] → A = none ∧ c = 0)
theorem RdS.upV {M M' : Mem} [hm : LeT M M'] {A : Option Addr} {c : Nat} {l : List VT} (h : RdS 3 (RdV M) A c l) : RdS 3 (RdV M') A c l := h.imp fun _ _ _ h => h.mono hm.out
theorem RdL.up {M M' : Mem} [hm : LeT M M'] {b o : Nat} {l : List VT} (h : RdL M b o l) : RdL M' b o l := by
  obtain ⟨A, c, h1, h2, h3⟩ := h
  exact ⟨A, c, h1.up hm.out, h2.upV, h3⟩
theorem RdS.upL {M M' : Mem} [hm : LeT M M'] {A : Option Addr} {c : Nat} {ls : List (List VT)} (h : RdS 1 (RdL M) A c ls) : RdS 1 (RdL M') A c ls := h.imp fun _ _ _ h => h.up
/-- Cells that hold slices of values. -/
def FlL (M : Mem) : List Value → List (List VT) → Prop
  | cs, [] => cs = []
  | cs, l :: ls => ∃ A c cs', cs = .slice A l.length c :: cs' ∧ RdS 3 (RdV M) A c l ∧ (l = [] → A = none ∧ c = 0) ∧ FlL M cs' ls
theorem FlL.up {M M' : Mem} [LeT M M'] : ∀ {l : List (List VT)} {cs : List Value}, FlL M cs l → FlL M' cs l
  | [], _, h => h
  | v :: l, _, h => by obtain ⟨A, c, cs', h1, h2, h4, h3⟩ := h; exact ⟨A, c, cs', h1, h2.upV, h4, h3.up⟩
theorem FlL.app {M : Mem} : ∀ {l l' : List (List VT)} {cs cs' : List Value}, FlL M cs l → FlL M cs' l' → FlL M (cs ++ cs') (l ++ l')
  | [], _, _, _, h, h' => by cases h; exact h'
  | v :: l, _, _, _, h, h' => by obtain ⟨A, c, cs', rfl, h2, h4, h3⟩ := h; exact ⟨A, c, _, rfl, h2, h4, h3.app h'⟩
theorem FlL.one {M : Mem} {l : List VT} {A : Option Addr} {c : Nat} (h : RdS 3 (RdV M) A c l) (h0 : l = [] → A = none ∧ c = 0) : FlL M [.slice A l.length c] [l] := ⟨A, c, [], rfl, h, h0, rfl⟩
theorem FlL.len {M : Mem} : ∀ {l : List (List VT)} {cs : List Value}, FlL M cs l → cs.length = l.length
  | [], _, h => by cases h; rfl
  | v :: l, _, h => by obtain ⟨A, c, cs', rfl, h2, h4, h3⟩ := h; have := h3.len; simp; omega
theorem FlL.at {M : Mem} : ∀ {l : List (List VT)} {cs : List Value}, FlL M cs l → ∀ i (h : i < l.length), ∃ A c, cs[i]? = some (.slice A l[i].length c) ∧ RdS 3 (RdV M) A c l[i] ∧ (l[i] = [] → A = none ∧ c = 0)
  | [], _, _, i, h => by simp at h
  | v :: l, _, h, 0, _ => by obtain ⟨A, c, cs', rfl, h2, h4, h3⟩ := h; exact ⟨A, c, rfl, h2, h4⟩
  | v :: l, _, h, i + 1, hi => by
    obtain ⟨A, c, cs', rfl, h2, h4, h3⟩ := h
    obtain ⟨A', c', a1, a2, a3⟩ := h3.at i (by simpa using hi)
    exact ⟨A', c', by simpa using a1, a2, a3⟩
theorem Kept.lists {M : Mem} {A : Option Addr} {n c : Nat} {cs : List Value} {l : List (List VT)} (h : Kept M A n c 1 cs) (hf : FlL M cs l) (hb : l.length ≤ 140737488355328) : n = l.length ∧ RdS 1 (RdL M) A c l := by
  obtain ⟨h1, h2, h3⟩ := h
  have hl := hf.len
  have hn : n = l.length := by omega
  subst hn
  refine ⟨rfl, h2, hb, ?_⟩
  rcases Nat.eq_zero_or_pos l.length with h0 | h0
  · exact ⟨0, 0, fun hne => absurd (List.eq_nil_of_length_eq_zero h0) hne, fun i hi => by omega⟩
  · obtain ⟨b, hA, hc⟩ := h3 h0
    refine ⟨b, 0, fun _ => hA, fun i hi => ?_⟩
    obtain ⟨A', c', a1, a2, a3⟩ := hf.at i hi
    rw [Nat.zero_add, Nat.mul_one]
    exact ⟨A', c', ⟨hc _ _ a1⟩, a2, a3⟩
theorem RdS.one {α : Type} {z b : Nat} {R : Nat → Nat → α → Prop} {x : α} (h0 : R b (0 + 0 * z) x) : RdS z R (some ⟨b, 0, none⟩) 1 [x] :=
  ⟨by simp, by simp, b, 0, fun _ => rfl, fun i hi => by
    match i, hi with
    | 0, _ => exact h0⟩
theorem conV_4 {ls : List Int → Nat → List (List VT)} {i : Nat} {c : CT} {k : Nat} (h : c.fields.length ≠ 0) (hk : k ≠ 0) : conV ls k i c = (ls c.fields (k - 1)).map fun l => ⟨0, i, l⟩ := by rw [conV, if_neg h, if_neg hk]
/-! ### The reference's rounds -/
section
variable {cp : Nat}
theorem tk_mid {β : Type} (P : List β) (Y : List β) (j : Nat) (h : (Y.take cp).length ≤ j ∨ cp ≤ ((P ++ (Y.take cp).take j).take cp).length) : (P ++ (Y.take cp).take j).take cp = (P ++ Y).take cp := by
  rw [← take_app_take P Y]
  refine take_pre ?_ ?_
  · obtain ⟨r, hr⟩ := List.take_prefix j (Y.take cp)
    exact ⟨r, by rw [List.append_assoc, hr]⟩
  · rcases h with h | h
    · exact .inl (by rw [List.take_of_length_le h]; exact Nat.le_refl _)
    · exact .inr h
theorem tk_mid_map {β γ : Type} (f : β → γ) (P : List γ) (Y : List β) (j : Nat) (h : (Y.take cp).length ≤ j ∨ cp ≤ ((P ++ ((Y.take cp).take j).map f).take cp).length) : (P ++ ((Y.take cp).take j).map f).take cp = (P ++ Y.map f).take cp := by
  have := tk_mid (cp := cp) P (Y.map f) j
  rw [← List.map_take, ← List.map_take, List.length_map] at this
  exact this h
theorem cq_end {ls : List Int → Nat → List (List VT)} {k : Nat} {cs : List CT} {i : Nat} {l : List VT} (hl : l = (cqV ls k cs i).take cp) (h : cs.length ≤ i ∨ cp ≤ l.length) : l = (consV ls k 0 cs).take cp := by
  rw [hl] at h ⊢
  rcases h with h | h
  · rw [cqV_end _ _ _ _ h]
  · exact take_pre (cqV_pre ..) (.inr h)
theorem cq_same {ls : List Int → Nat → List (List VT)} {k : Nat} {cs : List CT} {i : Nat} (hi : i < cs.length) {l : List VT} (hl : l = (cqV ls k cs i).take cp) (h : conV ls k i cs[i] = []) : l = (cqV ls k cs (i + 1)).take cp := by rw [cqV_succ _ _ _ _ hi, h, List.append_nil]; exact hl
theorem cq_push {ls : List Int → Nat → List (List VT)} {k : Nat} {cs : List CT} {i : Nat} (hi : i < cs.length) {l : List VT} (hl : l = (cqV ls k cs i).take cp) (hlt : l.length < cp) {v : VT} (h : conV ls k i cs[i] = [v]) : l ++ [v] = (cqV ls k cs (i + 1)).take cp := by
  rw [cqV_succ _ _ _ _ hi, h]
  rw [hl] at hlt ⊢
  exact take_push hlt
theorem cq_map {ls : List Int → Nat → List (List VT)} {k : Nat} {cs : List CT} {i : Nat} (hi : i < cs.length) {l : List VT} {Y : List (List VT)} {j : Nat} (hl : l = (cqV ls k cs i ++ ((Y.take cp).take j).map fun l => VT.mk 0 i l).take cp) (h : conV ls k i cs[i] = Y.map fun l => VT.mk 0 i l) (hj : (Y.take cp).length ≤ j ∨ cp ≤ l.length) : l = (cqV ls k cs (i + 1)).take cp := by
  rw [cqV_succ _ _ _ _ hi, h]
  rw [hl] at hj ⊢
  exact tk_mid_map _ _ _ _ hj
theorem mp_push {β γ : Type} {P : List γ} {f : β → γ} {Y : List β} {j : Nat} {l : List γ} (hl : l = (P ++ (Y.take j).map f).take cp) (hlt : l.length < cp) (hj : j < Y.length) : l ++ [f Y[j]] = (P ++ (Y.take (j + 1)).map f).take cp := by
  rw [take_succ _ _ hj, List.map_append, ← List.append_assoc]
  rw [hl] at hlt ⊢
  exact take_push hlt
theorem id_push {β : Type} {P : List β} {Y : List β} {j : Nat} {l : List β} (hl : l = (P ++ Y.take j).take cp) (hlt : l.length < cp) (hj : j < Y.length) : l ++ [Y[j]] = (P ++ Y.take (j + 1)).take cp := by
  rw [take_succ _ _ hj, ← List.append_assoc]
  rw [hl] at hlt ⊢
  exact take_push hlt
section
variable {ex : Int → Nat → List VT} {t : Int} {ts : List Int} {k j : Nat}
theorem lq_same {l : List (List VT)} (hc : 0 < cp) (hl : l = (lsQ ex t ts k j).take cp) (h : ((ex t j).take cp).length = 0) : l = (lsQ ex t ts k (j + 1)).take cp := by
  rw [lsQ_succ, lsG, take_nil_of hc h]
  simpa using hl
theorem lq_in {P : List (List VT)} {X : List VT} {Y : List (List VT)} {i n : Nat} (hi : i < X.length) {l : List (List VT)} (hl : l = (P ++ ((X.take i).flatMap fun v => Y.map (v :: ·)) ++ (Y.take n).map (X[i] :: ·)).take cp) (h : Y.length ≤ n ∨ cp ≤ l.length) : l = (P ++ (X.take (i + 1)).flatMap fun v => Y.map (v :: ·)).take cp := by
  rw [hl] at h ⊢
  rw [take_succ _ _ hi, List.flatMap_append]
  simp only [List.flatMap_cons, List.flatMap_nil, List.append_nil]
  rw [← List.append_assoc]
  refine take_pre (pre_map _ (List.take_prefix ..)) ?_
  rcases h with h | h
  · exact .inl (by rw [List.take_of_length_le h]; exact Nat.le_refl _)
  · exact .inr h
theorem lq_out {l : List (List VT)} {i : Nat} (hi : ((ex t j).take cp).length ≤ i) (hl : l = (lsQ ex t ts k j ++ (((ex t j).take cp).take i).flatMap fun v => ((lsV ex ts (k - j)).take cp).map (v :: ·)).take cp) : l = (lsQ ex t ts k (j + 1)).take cp := by
  rw [List.take_of_length_le hi] at hl
  rw [hl, lsQ_succ, lsG]
  exact take_two _ _ _ _
theorem lq_end {l : List (List VT)} (hl : l = (lsQ ex t ts k j).take cp) (hj : j ≤ k + 1) (h : k + 1 ≤ j ∨ cp ≤ l.length) : l = (lsV ex (t :: ts) k).take cp := by
  rw [lsQ_end]
  rw [hl] at h ⊢
  rcases h with h | h
  · rw [show j = k + 1 by omega]
  · exact take_pre (lsQ_pre _ _ _ _ hj) (.inr h)
end
theorem al_in {d : List DT} {t : Int} {k i : Nat} {l : List VT} (hl : l = (alQ d t k ++ ((exV d t k).take cp).take i).take cp) (h : ((exV d t k).take cp).length ≤ i ∨ cp ≤ l.length) : l = (alQ d t (k + 1)).take cp := by
  rw [alQ_succ]
  rw [hl] at h ⊢
  exact tk_mid _ _ _ h
theorem al_end {d : List DT} {t : Int} {k : Nat} {most : Int} (hck : tableF d t = 0) {l : List VT} (hl : l = (alQ d t k).take cp) (hk : k ≤ (most + 1).toNat) (h : (most + 1).toNat ≤ k ∨ cp ≤ l.length) : l = (allV d t most).take cp := by
  obtain ⟨h1, h2⟩ := tableF_ok hck
  by_cases hm : most < 0
  · obtain rfl : k = 0 := by omega
    rw [hl, allV, if_pos (.inr hm)]
    rfl
  · obtain ⟨q, rfl⟩ : ∃ q : Nat, most = q := ⟨most.toNat, by omega⟩
    rw [all_alQ h1 h2]
    rw [hl] at h ⊢
    rcases h with h | h
    · rw [show k = q + 1 by omega]
    · exact take_pre (alQ_pre _ _ (by omega)) (.inr h)
end
theorem al_bad {d : List DT} {t most : Int} (h : ¬ tableF d t = 0) : allV d t most = [] := by rw [allV, if_pos (.inl h)]
end Go.Proofs.YtieaiheejhmbfaaGreatDoor.ML
/- Walks of functions of the program, in the abstract layer. No conditions. -/
namespace Go.Proofs.YtieaiheejhmbfaaGreatDoor.ML
open Go.RowKit
set_option linter.unusedVariables false
set_option linter.unusedSimpArgs false
set_option maxHeartbeats 1600000 in
set_option synthInstance.maxHeartbeats 400000 in
set_option synthInstance.maxSize 100000 in
set_option maxRecDepth 100000 in
theorem r_lists81_c (d : List DT) (n : Nat) (hn6 : n ≤ 1000) (cp : Nat) (hcp : 2 ≤ cp ∧ cp ≤ 1000) (hex : ∀ (t : Int) (k : Nat), k < n → (0 ≤ t ∧ t ≤ d.length) → ∀ (M : Mem) (H : Heap) (Ad : Option Addr) (cd : Nat), RdS 2 (RdD M) Ad cd d → AC Tryz.prog 55 [.slice Ad d.length cd, .int .i64 t, .int .i64 k, .int .i64 cp] M H fun r M' H' => ∃ A c, r = .slice A ((exA d n t k).take cp).length c ∧ RdS 3 (RdV M') A c ((exA d n t k).take cp) ∧ H' = H) : ∀ (z : Nat) (ts : List Int), ts.length < z → (∀ x ∈ ts, 0 ≤ x ∧ x ≤ d.length) → ts.length ≤ 1000 → ∀ (k : Nat), k < n → ∀ (M : Mem) (H : Heap) (Ad : Option Addr) (cd : Nat) (A : Option Addr) (c : Nat), RdS 2 (RdD M) Ad cd d → RdS 1 (RdI M) A c ts →
    AC Tryz.prog 81 [.slice Ad d.length cd, .slice A ts.length c, .int .i64 k, .int .i64 cp] M H fun r M' H' => ∃ A c, r = .slice A ((lsV (exA d n) ts k).take cp).length c ∧ RdS 1 (RdL M') A c ((lsV (exA d n) ts k).take cp) ∧ H' = H
  | 0, ts, hz => by omega
  | z + 1, ts, hz => by
    intro hT htb k hk M H Ad cd A c hd hA
    refine AC.of (n := 78) Tryz.func81 rfl rfl ?_
    dsimp only [List.replicate, List.cons_append, List.nil_append]
    refine AW.seq ?_
    refine AW.region ?_
    refine st V.assign ?_
    refine sn ?_
    refine AW.seq ?_
    refine AW.seq ?_
    refine AW.region ?_
    refine st V.move ?_
    refine st V.len ?_
    refine st V.eql ?_
    refine sn ?_
    refine cond (fun h1 => ?_) (fun h1 => ?_)
    ·
      have k1 := bp h1
      obtain rfl : ts = [] := List.eq_nil_of_length_eq_zero (by omega)
      refine AW.seq ?_
      refine AW.seq ?_
      refine AW.region ?_
      refine st V.move ?_
      refine st V.eql ?_
      refine sn ?_
      refine cond (fun h2 => ?_) (fun h2 => ?_)
      ·
        have k2 := bp h2
        refine AW.seq ?_
        refine AW.region ?_
        refine se (S.lit1 (by rfl) (by decide) ?_); intro g20
        refine AO.fz 0 fun Mf jf kf => ?_
        refine st V.assign ?_
        refine sn ?_
        refine AW.ret ?_
        repeat with_reducible first | refine thn_ret ?_ | refine inb_ret ?_
        refine fin (Res.i1 rfl) ?_
        have e0 : (lsV (exA d n) [] k).take cp = [[]] := by rw [lsV, if_pos (by omega), List.take_of_length_le (by simp; omega)]
        rw [e0]
        refine ⟨_, List.Sublist.refl _, _, _, rfl, RdS.one ⟨none, 0, kf.cel 0 _ rfl, RdS.nil, fun _ => ⟨rfl, rfl⟩⟩, rfl⟩
      ·
        have k2 := bp h2
        refine AW.skip ?_
        refine AW.seq ?_
        refine AW.region ?_
        refine st V.assign ?_
        refine sn ?_
        refine AW.ret ?_
        repeat with_reducible first | refine thn_ret ?_ | refine inb_ret ?_
        refine fin (Res.i1 rfl) ?_
        have e0 : (lsV (exA d n) [] k).take cp = [] := by rw [lsV, if_neg (by omega), List.take_nil]
        rw [e0]
        refine ⟨_, List.Sublist.refl _, none, 0, rfl, RdS.nil, rfl⟩
    ·
      have k1 := bp h1
      obtain ⟨t0, ts, rfl⟩ : ∃ t0 ts', ts = t0 :: ts' := by cases ts with | nil => simp at k1 | cons a l => exact ⟨a, l, rfl⟩
      simp only [List.length_cons] at hz htb ⊢
      refine AW.skip ?_
      refine AW.seq ?_
      refine AW.region ?_
      refine st V.assign ?_
      refine sn ?_
      refine AW.seq ?_
      refine AW.seq ?_
      refine AW.region ?_
      refine st V.assign ?_
      refine sn ?_
      refine AW.block ?_
      refine AW.row0 24 1 ?_
      refine AW.loopL [9, 10] (11 :: 12 :: 13 :: 14 :: 21 :: 22 :: 23 :: 24 :: 25 :: 26 :: 27 :: 28 :: 29 :: 30 :: 31 :: 32 :: 33 :: 34 :: 35 :: 36 :: 37 :: 38 :: 39 :: 40 :: 41 :: 42 :: 43 :: 44 :: 45 :: 46 :: 47 :: 48 :: 49 :: 50 :: 51 :: 52 :: 53 :: 54 :: 55 :: 56 :: 57 :: 58 :: 59 :: 60 :: 61 :: 62 :: 63 :: 64 :: 65 :: 66 :: 67 :: 68 :: 69 :: 70 :: 71 :: 72 :: 73 :: 74 :: 75 :: 76 :: 77 :: 78 :: 79 :: 80 :: []) (fun q vs M' H' => ∃ (j : Nat) (l : List (List VT)) (A' : Option Addr) (c' : Nat) (cs : List Value), vs = [.slice A' l.length c', .int .i64 (j : Int)] ∧ H' = .row A' l.length c' 24 1 cs :: H ∧ j + q = k + 1 ∧ FlL M' cs l ∧ l = (lsQ (exA d n) t0 ts k j).take cp) (k + 1) (⟨0, [], none, 0, [], rfl, rfl, by omega, rfl, by rw [lsQ_0, List.take_nil]⟩) ?_
      intro q Ml Hl iL u9 u10 hI u11 u12 u13 u14 u21 u22 u23 u24 u25 u26 u27 u28 u29 u30 u31 u32 u33 u34 u35 u36 u37 u38 u39 u40 u41 u42 u43 u44 u45 u46 u47 u48 u49 u50 u51 u52 u53 u54 u55 u56 u57 u58 u59 u60 u61 u62 u63 u64 u65 u66 u67 u68 u69 u70 u71 u72 u73 u74 u75 u76 u77 u78 u79 u80
      obtain ⟨j, l, A', c', cs, hv, hH, hj, hf, hl⟩ := hI
      subst hH
      cases hv
      refine sa ?_
      refine AW.seq ?_
      refine AW.seq ?_
      refine AW.region ?_
      refine st V.move ?_
      refine st V.move ?_
      refine st V.leq ?_
      refine st V.move ?_
      refine onoff false rfl rfl (fun h3 => ?_) (fun h3 => ?_)
      ·
        have k3 := bp h3
        refine st V.move ?_
        refine on rfl h3 ?_
        refine st V.len ?_
        refine on rfl h3 ?_
        refine st V.move ?_
        refine on rfl h3 ?_
        refine st V.lss ?_
        refine st (V.pT h3) ?_
        refine sn ?_
        refine cond (fun h4 => ?_) (fun h4 => ?_)
        ·
          have k4 := bp h4
          refine AW.skip ?_
          refine AW.seq ?_
          refine AW.block ?_
          refine AW.seq ?_
          have hr0 := hA.drop 1 (by simp)
          obtain ⟨bx, ox, hAx, ex⟩ := (hA.upI (M' := Ml)).at 0 (by simp)
          have ex : Mk Ml bx (ox + 0 * 1) (.int .i64 t0) := ex
          refine AW.region ?_
          refine st V.move ?_
          refine st V.move ?_
          refine st (V.ib 0 rfl (by omega) hAx) ?_
          first | refine st V.ld ?_ | refine sq V.lo ?_
          refine st V.move ?_
          refine st V.move ?_
          refine se (S.call ?_)
          refine (hex t0 j (by omega) (hT t0 (List.mem_cons_self ..)) _ _ Ad cd hd.upD).use ?_
          rintro v9 N9 G9 iz9 ⟨A9, c9, rfl, r9, hG⟩
          obtain rfl := hG.symm
          have hxl : ((exA d n t0 j).take cp).length ≤ cp := by rw [List.length_take]; omega
          refine st V.assign ?_
          refine sn ?_
          refine AW.seq ?_
          refine AW.seq ?_
          refine AW.region ?_
          refine st V.move ?_
          refine st V.len ?_
          refine st V.eql ?_
          refine sn ?_
          refine cond (fun h5 => ?_) (fun h5 => ?_)
          ·
            have k5 := bp h5
            refine AW.exit ?_
            repeat with_reducible refine thn_exit ?_
            refine inb_exit ?_
            refine AW.region ?_
            refine st V.move ?_
            refine st (V.add64 (by omega)) ?_
            refine st V.assign ?_
            refine sn ?_
            repeat with_reducible refine inb_normal ?_
            refine thn_normal ?_
            refine rnd (q - 1) _ (by omega) (List.Sublist.refl _) ⟨j + 1, l, A', c', cs, by simp, rfl, by omega, hf.up, lq_same (by omega) hl (by omega)⟩
          ·
            have k5 := bp h5
            refine AW.skip ?_
            refine AW.seq ?_
            refine AW.region ?_
            refine st V.move ?_
            refine st V.move ?_
            refine st (V.slL (by omega) (by omega)) ?_
            refine st V.move ?_
            refine st V.move ?_
            refine st (V.sub64 (by omega)) ?_
            refine st V.move ?_
            have e1 : ((k : Int) - (j : Int)) = ((k - j : Nat) : Int) := by omega
            refine se (S.call ?_)
            rw [e1]
            refine (r_lists81_c d n hn6 cp hcp hex z ts (by omega) (fun x hx => hT x (List.mem_cons_of_mem _ hx)) (by omega) (k - j) (by omega) _ _ Ad cd _ _ hd.upD (RdS.upI hr0)).use ?_
            rintro v11 N11 G11 iz11 ⟨A11, c11, rfl, r11, hG⟩
            obtain rfl := hG.symm
            have hyl : ((lsV (exA d n) ts (k - j)).take cp).length ≤ cp := by rw [List.length_take]; omega
            refine st V.assign ?_
            refine sn ?_
            refine AW.seq ?_
            refine AW.region ?_
            refine st V.assign ?_
            refine sn ?_
            refine AW.block ?_
            refine AW.loopL [9, 13] (14 :: 50 :: 51 :: 52 :: 53 :: 54 :: 55 :: 56 :: 57 :: 58 :: 59 :: 60 :: 61 :: 62 :: 63 :: 64 :: 65 :: 66 :: 67 :: 68 :: 69 :: 70 :: 71 :: 72 :: 73 :: 74 :: 75 :: 76 :: 77 :: 78 :: 79 :: 80 :: []) (fun q vs M' H' => ∃ (i : Nat) (l : List (List VT)) (A' : Option Addr) (c' : Nat) (cs : List Value), vs = [.slice A' l.length c', .int .i64 (i : Int)] ∧ H' = .row A' l.length c' 24 1 cs :: H ∧ i + q = ((exA d n t0 j).take cp).length ∧ FlL M' cs l ∧ l = (lsQ (exA d n) t0 ts k j ++ (((exA d n t0 j).take cp).take i).flatMap fun v => ((lsV (exA d n) ts (k - j)).take cp).map (v :: ·)).take cp) (((exA d n t0 j).take cp).length) (⟨0, l, A', c', cs, rfl, rfl, by omega, hf.up, by simpa using hl⟩) ?_
            intro q1 Ml1 Hl1 iL1 u9 u13 hI1 u14 u50 u51 u52 u53 u54 u55 u56 u57 u58 u59 u60 u61 u62 u63 u64 u65 u66 u67 u68 u69 u70 u71 u72 u73 u74 u75 u76 u77 u78 u79 u80
            obtain ⟨i, l, A', c', cs, hv, hH, hi, hf, hl⟩ := hI1
            subst hH
            cases hv
            refine sa ?_
            refine AW.seq ?_
            refine AW.seq ?_
            refine AW.region ?_
            refine st V.move ?_
            refine st V.move ?_
            refine st V.len ?_
            refine st V.lss ?_
            refine sn ?_
            refine cond (fun h6 => ?_) (fun h6 => ?_)
            ·
              have k6 := bp h6
              refine AW.skip ?_
              refine AW.seq ?_
              refine AW.block ?_
              refine AW.seq ?_
              have zi : i < ((exA d n t0 j).take cp).length := by omega
              refine AW.region ?_
              refine st V.assign ?_
              refine sn ?_
              refine AW.block ?_
              refine AW.loopL [9, 14] (56 :: 57 :: 58 :: 59 :: 60 :: 61 :: 62 :: 63 :: 64 :: 65 :: 66 :: 67 :: 68 :: 69 :: 70 :: 71 :: 72 :: 73 :: 74 :: 75 :: 76 :: 77 :: 78 :: 79 :: 80 :: []) (fun q vs M' H' => ∃ (e : Nat) (l : List (List VT)) (A' : Option Addr) (c' : Nat) (cs : List Value), vs = [.slice A' l.length c', .int .i64 (e : Int)] ∧ H' = .row A' l.length c' 24 1 cs :: H ∧ e + q = ((lsV (exA d n) ts (k - j)).take cp).length ∧ FlL M' cs l ∧ l = (lsQ (exA d n) t0 ts k j ++ ((((exA d n t0 j).take cp).take i).flatMap fun v => ((lsV (exA d n) ts (k - j)).take cp).map (v :: ·)) ++ (((lsV (exA d n) ts (k - j)).take cp).take e).map (((exA d n t0 j).take cp)[i] :: ·)).take cp) (((lsV (exA d n) ts (k - j)).take cp).length) (⟨0, l, A', c', cs, rfl, rfl, by omega, hf.up, by simpa using hl⟩) ?_
              intro q2 Ml2 Hl2 iL2 u9 u14 hI2 u56 u57 u58 u59 u60 u61 u62 u63 u64 u65 u66 u67 u68 u69 u70 u71 u72 u73 u74 u75 u76 u77 u78 u79 u80
              obtain ⟨e, l, A', c', cs, hv, hH, he, hf, hl⟩ := hI2
              subst hH
              cases hv
              refine sa ?_
              refine AW.seq ?_
              refine AW.seq ?_
              refine AW.region ?_
              refine st V.move ?_
              refine st V.move ?_
              refine st V.len ?_
              refine st V.lss ?_
              refine st V.move ?_
              refine onoff false rfl rfl (fun h7 => ?_) (fun h7 => ?_)
              ·
                have k7 := bp h7
                refine st V.move ?_
                refine on rfl h7 ?_
                refine st V.len ?_
                refine on rfl h7 ?_
                refine st V.move ?_
                refine on rfl h7 ?_
                refine st V.lss ?_
                refine st (V.pT h7) ?_
                refine sn ?_
                refine cond (fun h8 => ?_) (fun h8 => ?_)
                ·
                  have k8 := bp h8
                  refine AW.skip ?_
                  refine AW.seq ?_
                  refine AW.block ?_
                  have zi : i < ((exA d n t0 j).take cp).length := by omega
                  have ze : e < ((lsV (exA d n) ts (k - j)).take cp).length := by omega
                  obtain ⟨bq, oq, hAq, eq⟩ := (r9.upV (M' := Ml2)).at i zi
                  obtain ⟨Ax, cx, x0, x1, x2, xs⟩ := eq.get
                  obtain ⟨by0, oy, hAy, Ay, cy, y0, y1, y2⟩ := (r11.upL (M' := Ml2)).at e ze
                  have hyn : ((lsV (exA d n) ts (k - j)).take cp)[e].length = ts.length := (ls_mem _ _ _ (List.mem_of_mem_take (List.getElem_mem ze))).1
                  refine AW.regionD mx true [0, 1, 2, 3, 4, 6, 7, 8, 9, 5, 10, 11, 12, 13] [[], [], [], [1, 2], [1, 2, 3], [1, 2, 3, 4], [], [], [6, 7], [6, 7, 8], [1, 2, 3, 4, 5, 6, 7, 8, 9], [1, 2, 3, 4, 5, 6, 7, 8, 9, 10], [0, 1, 2, 3, 4, 5, 6, 7, 8, 9, 10, 11], [0, 1, 2, 3, 4, 5, 6, 7, 8, 9, 10, 11, 12]] (by kernel_rfl) ?_
                  refine D.p rfl rfl V.move ?_
                  refine D.p rfl rfl V.move ?_
                  refine D.p rfl rfl V.move ?_
                  refine D.p rfl rfl (V.ib i rfl zi hAq) ?_
                  refine D.p rfl rfl V.ldA ?_
                  refine D.p rfl rfl V.move ?_
                  refine D.p rfl rfl V.move ?_
                  refine D.p rfl rfl (V.ib e rfl ze hAy) ?_
                  refine D.p rfl rfl V.ld ?_
                  refine D.e rfl rfl (S.lit1 (by rfl) (by decide) ?_); intro g73
                  refine D.e rfl rfl (S.apV rfl (by rfl) y1 y2 (by omega) (by omega) ?_)
                  intro A2 c2 vs2 hf2
                  refine D.e rfl rfl (AS.kp fun Mw iw hkw => ?_)
                  obtain ⟨hkn, hr⟩ := hkw.vals (((FlV.one (M := Mw) (VV.up xs)).app (hf2.up (M' := Mw)))) (by simp only [List.length_append, List.length_cons, List.length_nil]; omega)
                  refine S.lit1 (by rfl) (by decide) ?_
                  intro g79
                  refine D.e rfl rfl (S.ap1 (by rfl) (by omega) (by omega) ?_)
                  intro A3 c3
                  refine D.p rfl rfl V.assign ?_
                  refine D.nl ?_
                  refine AW.region ?_
                  refine st V.move ?_
                  refine st (V.add64 (by omega)) ?_
                  refine st V.assign ?_
                  refine sn ?_
                  repeat with_reducible refine inb_normal ?_
                  refine thn_normal ?_
                  refine rnd (q2 - 1) _ (by omega) (List.Sublist.refl _) ⟨e + 1, l ++ [((exA d n t0 j).take cp)[i] :: ((lsV (exA d n) ts (k - j)).take cp)[e]], A3, c3, _, by simp, by simp, by omega, (hf.up (M' := Mw)).app (FlL.one hr (fun h => by cases h)), mp_push (f := (((exA d n t0 j).take cp)[i] :: ·)) hl (by omega) ze⟩
                ·
                  have k8 := bp h8
                  refine AW.exit ?_
                  repeat with_reducible refine thn_exit ?_
                  refine inb_exit ?_
                  refine AW.region ?_
                  refine st V.move ?_
                  refine st (V.add64 (by omega)) ?_
                  refine st V.assign ?_
                  refine sn ?_
                  repeat with_reducible refine inb_normal ?_
                  refine thn_normal ?_
                  refine rnd (q1 - 1) _ (by omega) (List.Sublist.refl _) ⟨i + 1, l, A', c', cs, by simp, rfl, by omega, hf.up, lq_in zi hl (by omega)⟩
              ·
                have k7 := bp h7
                refine off rfl h7 ?_
                refine off rfl h7 ?_
                refine off rfl h7 ?_
                refine st (V.pF h7) ?_
                refine sn ?_
                refine cond (fun h => by cases h) (fun _ => ?_)
                refine AW.exit ?_
                repeat with_reducible refine thn_exit ?_
                refine inb_exit ?_
                refine AW.region ?_
                refine st V.move ?_
                refine st (V.add64 (by omega)) ?_
                refine st V.assign ?_
                refine sn ?_
                repeat with_reducible refine inb_normal ?_
                refine thn_normal ?_
                refine rnd (q1 - 1) _ (by omega) (List.Sublist.refl _) ⟨i + 1, l, A', c', cs, by simp, rfl, by omega, hf.up, lq_in zi hl (by omega)⟩
            ·
              have k6 := bp h6
              refine AW.exit ?_
              repeat with_reducible refine thn_exit ?_
              refine inb_exit ?_
              refine AW.region ?_
              refine st V.move ?_
              refine st (V.add64 (by omega)) ?_
              refine st V.assign ?_
              refine sn ?_
              repeat with_reducible refine inb_normal ?_
              refine thn_normal ?_
              refine rnd (q - 1) _ (by omega) (List.Sublist.refl _) ⟨j + 1, l, A', c', cs, by simp, rfl, by omega, hf.up, lq_out (by omega) hl⟩
        ·
          have k4 := bp h4
          refine AW.exit ?_
          repeat with_reducible refine thn_exit ?_
          refine inb_exit ?_
          refine AW.seq ?_
          refine AW.kp 0 fun Mv iv hkv => ?_
          refine AW.region ?_
          refine st V.move ?_
          refine st V.assign ?_
          refine sn ?_
          refine AW.ret ?_
          repeat with_reducible first | refine thn_ret ?_ | refine inb_ret ?_
          refine fin (Res.i1 rfl) ?_
          have e0 := lq_end hl (by omega) (by omega)
          obtain ⟨hkn, hr⟩ := hkv.lists hf.up (by rw [e0, List.length_take]; omega)
          rw [← e0]
          refine ⟨_, (by repeat first | exact List.Sublist.refl _ | apply List.Sublist.cons), _, _, rfl, hr, rfl⟩
      ·
        have k3 := bp h3
        refine off rfl h3 ?_
        refine off rfl h3 ?_
        refine off rfl h3 ?_
        refine st (V.pF h3) ?_
        refine sn ?_
        refine cond (fun h => by cases h) (fun _ => ?_)
        refine AW.exit ?_
        repeat with_reducible refine thn_exit ?_
        refine inb_exit ?_
        refine AW.seq ?_
        refine AW.kp 0 fun Mv iv hkv => ?_
        refine AW.region ?_
        refine st V.move ?_
        refine st V.assign ?_
        refine sn ?_
        refine AW.ret ?_
        repeat with_reducible first | refine thn_ret ?_ | refine inb_ret ?_
        refine fin (Res.i1 rfl) ?_
        have e0 := lq_end hl (by omega) (by omega)
        obtain ⟨hkn, hr⟩ := hkv.lists hf.up (by rw [e0, List.length_take]; omega)
        rw [← e0]
        refine ⟨_, (by repeat first | exact List.Sublist.refl _ | apply List.Sublist.cons), _, _, rfl, hr, rfl⟩
end Go.Proofs.YtieaiheejhmbfaaGreatDoor.ML
/- Walks of functions of the program, in the abstract layer. No conditions. -/
namespace Go.Proofs.YtieaiheejhmbfaaGreatDoor.ML
open Go.RowKit
set_option linter.unusedVariables false
set_option linter.unusedSimpArgs false
set_option maxHeartbeats 1600000 in
set_option synthInstance.maxHeartbeats 400000 in
set_option synthInstance.maxSize 100000 in
set_option maxRecDepth 100000 in
theorem r_ex55_c (d : List DT) (hT : TypedP d) (hB : BdD d) (n : Nat) (hn6 : n ≤ 1000) (cp : Nat) (hcp : 2 ≤ cp ∧ cp ≤ 1000) (hex : ∀ (t : Int) (k : Nat), k < n → (0 ≤ t ∧ t ≤ d.length) → ∀ (M : Mem) (H : Heap) (Ad : Option Addr) (cd : Nat), RdS 2 (RdD M) Ad cd d → AC Tryz.prog 55 [.slice Ad d.length cd, .int .i64 t, .int .i64 k, .int .i64 cp] M H fun r M' H' => ∃ A c, r = .slice A ((exA d n t k).take cp).length c ∧ RdS 3 (RdV M') A c ((exA d n t k).take cp) ∧ H' = H) (t : Int) (k : Nat) (hk : k < n + 1) (ht : 0 ≤ t ∧ t ≤ d.length) (M : Mem) (H : Heap) (Ad : Option Addr) (cd : Nat) (hd : RdS 2 (RdD M) Ad cd d) :
    AC Tryz.prog 55 [.slice Ad d.length cd, .int .i64 t, .int .i64 k, .int .i64 cp] M H fun r M' H' => ∃ A c, r = .slice A ((exA d (n + 1) t k).take cp).length c ∧ RdS 3 (RdV M') A c ((exA d (n + 1) t k).take cp) ∧ H' = H := by
  have hbd := hd.bd
  refine AC.of (n := 84) Tryz.func55 rfl rfl ?_
  dsimp only [List.replicate, List.cons_append, List.nil_append]
  refine AW.seq ?_
  refine AW.region ?_
  refine st V.assign ?_
  refine sn ?_
  refine AW.seq ?_
  refine AW.seq ?_
  refine AW.region ?_
  refine st V.move ?_
  refine st V.eql ?_
  refine sn ?_
  refine cond (fun h1 => ?_) (fun h1 => ?_)
  ·
    have k1 := bp h1
    refine AW.seq ?_
    refine AW.seq ?_
    refine AW.region ?_
    refine st V.move ?_
    refine st V.eql ?_
    refine sn ?_
    refine cond (fun h2 => ?_) (fun h2 => ?_)
    ·
      have k2 := bp h2
      refine AW.seq ?_
      refine AW.region ?_
      refine st (V.build (cells := [.int .i64 0, .int .i64 0, .slice none 0 0]) rfl) ?_
      refine st (V.build (cells := [.int .i64 1, .int .i64 0, .slice none 0 0]) rfl) ?_
      refine se (S.lit2 (by rfl) (by rfl) (by decide) ?_); intro g20
      refine AO.fz 0 fun Mf jf kf => ?_
      refine st V.assign ?_
      refine sn ?_
      refine AW.ret ?_
      repeat with_reducible first | refine thn_ret ?_ | refine inb_ret ?_
      refine fin (Res.i1 rfl) ?_
      have e0 : (exA d (n + 1) t k).take cp = [⟨0, 0, []⟩, ⟨1, 0, []⟩] := by rw [exA, if_pos k1, if_pos (by omega), List.take_of_length_le (by simp; omega)]
      rw [e0]
      refine ⟨_, List.Sublist.refl _, _, _, rfl, RdS.two (RdV.of (x := ⟨0, 0, []⟩) (kf.cel 0 _ rfl) (kf.cel 1 _ rfl) (kf.cel 2 _ rfl) RdS.nil) (RdV.of (x := ⟨1, 0, []⟩) (kf.cel 3 _ rfl) (kf.cel 4 _ rfl) (kf.cel 5 _ rfl) RdS.nil), rfl⟩
    ·
      have k2 := bp h2
      refine AW.skip ?_
      refine AW.seq ?_
      refine AW.region ?_
      refine st V.assign ?_
      refine sn ?_
      refine AW.ret ?_
      repeat with_reducible first | refine thn_ret ?_ | refine inb_ret ?_
      refine fin (Res.i1 rfl) ?_
      have e0 : (exA d (n + 1) t k).take cp = [] := by rw [exA, if_pos k1, if_neg (by omega), List.take_nil]
      rw [e0]
      refine ⟨_, List.Sublist.refl _, none, 0, rfl, RdS.nil, rfl⟩
  ·
    have k1 := bp h1
    refine AW.skip ?_
    refine AW.seq ?_
    obtain ⟨p, rfl⟩ : ∃ p : Nat, t = (p : Int) + 1 := ⟨(t - 1).toNat, by omega⟩
    have hp0 : p < d.length := by omega
    obtain ⟨b8, o8, hA8, i0, ib0, A8, c8, i1, i2⟩ := hd.at p hp0
    have hb8 := i2.bd
    have hbp := (hB p hp0).2
    refine AW.region ?_
    refine st V.assign ?_
    refine sn ?_
    refine AW.seq ?_
    refine AW.seq ?_
    refine AW.region ?_
    refine st V.assign ?_
    refine sn ?_
    refine AW.block ?_
    refine AW.row0 26 3 ?_
    refine AW.loopL [9, 10] (11 :: 12 :: 13 :: 21 :: 22 :: 23 :: 24 :: 25 :: 26 :: 27 :: 28 :: 29 :: 30 :: 31 :: 32 :: 33 :: 34 :: 35 :: 36 :: 37 :: 38 :: 39 :: 40 :: 41 :: 42 :: 43 :: 44 :: 45 :: 46 :: 47 :: 48 :: 49 :: 50 :: 51 :: 52 :: 53 :: 54 :: 55 :: 56 :: 57 :: 58 :: 59 :: 60 :: 61 :: 62 :: 63 :: 64 :: 65 :: 66 :: 67 :: 68 :: 69 :: 70 :: 71 :: 72 :: 73 :: 74 :: 75 :: 76 :: 77 :: 78 :: 79 :: 80 :: 81 :: 82 :: 83 :: 84 :: 85 :: 86 :: []) (fun q vs M' H' => ∃ (i : Nat) (l : List VT) (A' : Option Addr) (c' : Nat) (cs : List Value), vs = [.slice A' l.length c', .int .i64 (i : Int)] ∧ H' = .row A' l.length c' 26 3 cs :: H ∧ i + q = d[p].cons.length ∧ FlV M' cs l ∧ l = (cqV (lsV (exA d n)) k d[p].cons i).take cp) (d[p].cons.length) (⟨0, [], none, 0, [], rfl, rfl, by omega, rfl, by rw [cqV, List.take_zero, consV, List.take_nil]⟩) ?_
    intro q Ml Hl iL u9 u10 hI u11 u12 u13 u21 u22 u23 u24 u25 u26 u27 u28 u29 u30 u31 u32 u33 u34 u35 u36 u37 u38 u39 u40 u41 u42 u43 u44 u45 u46 u47 u48 u49 u50 u51 u52 u53 u54 u55 u56 u57 u58 u59 u60 u61 u62 u63 u64 u65 u66 u67 u68 u69 u70 u71 u72 u73 u74 u75 u76 u77 u78 u79 u80 u81 u82 u83 u84 u85 u86
    obtain ⟨i, l, A', c', cs, hv, hH, hi, hf, hl⟩ := hI
    subst hH
    cases hv
    refine sa ?_
    refine AW.seq ?_
    refine AW.seq ?_
    refine AW.region ?_
    refine st V.move ?_
    refine st V.move ?_
    refine st V.move ?_
    refine st (V.sub64 (by omega)) ?_
    refine st (V.ib p (by omega) hp0 hA8) ?_
    refine st V.fa ?_
    first | refine st V.ld ?_ | refine sq V.lo ?_
    refine st V.len ?_
    refine st V.lss ?_
    refine st V.move ?_
    refine onoff false rfl rfl (fun h3 => ?_) (fun h3 => ?_)
    ·
      have k3 := bp h3
      refine st V.move ?_
      refine on rfl h3 ?_
      refine st V.len ?_
      refine on rfl h3 ?_
      refine st V.move ?_
      refine on rfl h3 ?_
      refine st V.lss ?_
      refine st (V.pT h3) ?_
      refine sn ?_
      refine cond (fun h4 => ?_) (fun h4 => ?_)
      ·
        have k4 := bp h4
        refine AW.skip ?_
        refine AW.seq ?_
        refine AW.block ?_
        refine AW.seq ?_
        have z5 : i < d[p].cons.length := by omega
        obtain ⟨bx9, o9, hA9, j0, jb, A9, c9, j1, j2⟩ := (i2.upC (M' := Ml)).at i z5
        have hb9 := j2.bd
        have hbf := hbp i z5
        refine AW.region ?_
        refine st V.move ?_
        refine st V.move ?_
        refine st (V.sub64 (by omega)) ?_
        refine st (V.ib p (by omega) hp0 hA8) ?_
        refine st V.fa ?_
        first | refine st V.ld ?_ | refine sq V.lo ?_
        refine st V.move ?_
        refine st (V.ib i rfl z5 hA9) ?_
        refine st V.fa ?_
        first | refine st V.ld ?_ | refine sq V.lo ?_
        refine st V.assign ?_
        refine sn ?_
        refine AW.seq ?_
        refine AW.seq ?_
        refine AW.region ?_
        refine st V.move ?_
        refine st V.len ?_
        refine st V.eql ?_
        refine sn ?_
        refine cond (fun h5 => ?_) (fun h5 => ?_)
        ·
          have k5 := bp h5
          refine AW.seq ?_
          refine AW.seq ?_
          refine AW.region ?_
          refine st V.move ?_
          refine st V.eql ?_
          refine sn ?_
          refine cond (fun h6 => ?_) (fun h6 => ?_)
          ·
            have k6 := bp h6
            refine AW.region ?_
            refine st V.move ?_
            refine st V.move ?_
            refine st (V.build (cells := [.int .i64 0, .int .i64 i, .slice none 0 0]) rfl) ?_
            refine se (S.lit1 (by rfl) (by decide) ?_); intro g56
            refine se (S.ap1 (by rfl) (by omega) (by omega) ?_)
            intro A2 c2
            refine st V.assign ?_
            refine sn ?_
            refine AW.exit ?_
            repeat with_reducible refine thn_exit ?_
            refine inb_exit ?_
            refine AW.region ?_
            refine st V.move ?_
            refine st (V.add64 (by omega)) ?_
            refine st V.assign ?_
            refine sn ?_
            repeat with_reducible refine inb_normal ?_
            refine thn_normal ?_
            refine rnd (q - 1) _ (by omega) (List.Sublist.refl _) ⟨i + 1, l ++ [⟨0, i, []⟩], A2, c2, _, by simp, by rw [List.length_append]; rfl, by omega, hf.app (FlV.one (v := ⟨0, i, []⟩) (A := none) (c := 0) RdS.nil), cq_push z5 hl (by omega) (conV_0 (by omega) (by omega))⟩
          ·
            have k6 := bp h6
            refine AW.skip ?_
            refine AW.exit ?_
            repeat with_reducible refine thn_exit ?_
            refine inb_exit ?_
            refine AW.region ?_
            refine st V.move ?_
            refine st (V.add64 (by omega)) ?_
            refine st V.assign ?_
            refine sn ?_
            repeat with_reducible refine inb_normal ?_
            refine thn_normal ?_
            refine rnd (q - 1) _ (by omega) (List.Sublist.refl _) ⟨i + 1, l, A', c', cs, by simp, rfl, by omega, hf.up, cq_same z5 hl (conV_1 (by omega) (by omega))⟩
        ·
          have k5 := bp h5
          refine AW.skip ?_
          refine AW.seq ?_
          refine AW.seq ?_
          refine AW.region ?_
          refine st V.move ?_
          refine st V.eql ?_
          refine sn ?_
          refine cond (fun h7 => ?_) (fun h7 => ?_)
          ·
            have k7 := bp h7
            refine AW.exit ?_
            repeat with_reducible refine thn_exit ?_
            refine inb_exit ?_
            refine AW.region ?_
            refine st V.move ?_
            refine st (V.add64 (by omega)) ?_
            refine st V.assign ?_
            refine sn ?_
            repeat with_reducible refine inb_normal ?_
            refine thn_normal ?_
            refine rnd (q - 1) _ (by omega) (List.Sublist.refl _) ⟨i + 1, l, A', c', cs, by simp, rfl, by omega, hf.up, cq_same z5 hl (conV_2 (by omega) (by omega))⟩
          ·
            have k7 := bp h7
            refine AW.skip ?_
            refine AW.seq ?_
            refine AW.region ?_
            refine st V.move ?_
            refine st V.move ?_
            refine st V.move ?_
            refine st (V.sub64 (by omega)) ?_
            refine st V.move ?_
            have e1 : ((k : Int) - 1) = ((k - 1 : Nat) : Int) := by omega
            refine se (S.call ?_)
            rw [e1]
            refine (r_lists81_c d n hn6 cp hcp hex (d[p].cons[i].fields.length + 1) d[p].cons[i].fields (by omega) (hT p hp0 i z5) (by omega) (k - 1) (by omega) _ _ Ad cd _ _ hd.upD j2.upI).use ?_
            rintro v11 N11 G11 iz11 ⟨A11, c11, rfl, r11, hG⟩
            obtain rfl := hG.symm
            have hyl : ((lsV (exA d n) d[p].cons[i].fields (k - 1)).take cp).length ≤ cp := by rw [List.length_take]; omega
            refine st V.assign ?_
            refine sn ?_
            refine AW.seq ?_
            refine AW.region ?_
            refine st V.assign ?_
            refine sn ?_
            refine AW.block ?_
            refine AW.loopL [9, 13] (66 :: 67 :: 68 :: 69 :: 70 :: 71 :: 72 :: 73 :: 74 :: 75 :: 76 :: 77 :: 78 :: 79 :: 80 :: 81 :: 82 :: 83 :: 84 :: 85 :: 86 :: []) (fun q vs M' H' => ∃ (j : Nat) (l : List VT) (A' : Option Addr) (c' : Nat) (cs : List Value), vs = [.slice A' l.length c', .int .i64 (j : Int)] ∧ H' = .row A' l.length c' 26 3 cs :: H ∧ j + q = ((lsV (exA d n) d[p].cons[i].fields (k - 1)).take cp).length ∧ FlV M' cs l ∧ l = ((cqV (lsV (exA d n)) k d[p].cons i) ++ (((lsV (exA d n) d[p].cons[i].fields (k - 1)).take cp).take j).map fun l => VT.mk 0 i l).take cp) (((lsV (exA d n) d[p].cons[i].fields (k - 1)).take cp).length) (⟨0, l, A', c', cs, rfl, rfl, by omega, hf.up, by simpa using hl⟩) ?_
            intro q1 Ml1 Hl1 iL1 u9 u13 hI1 u66 u67 u68 u69 u70 u71 u72 u73 u74 u75 u76 u77 u78 u79 u80 u81 u82 u83 u84 u85 u86
            obtain ⟨j, l, A', c', cs, hv, hH, hj, hf, hl⟩ := hI1
            subst hH
            cases hv
            refine sa ?_
            refine AW.seq ?_
            refine AW.seq ?_
            refine AW.region ?_
            refine st V.move ?_
            refine st V.move ?_
            refine st V.len ?_
            refine st V.lss ?_
            refine st V.move ?_
            refine onoff false rfl rfl (fun h8 => ?_) (fun h8 => ?_)
            ·
              have k8 := bp h8
              refine st V.move ?_
              refine on rfl h8 ?_
              refine st V.len ?_
              refine on rfl h8 ?_
              refine st V.move ?_
              refine on rfl h8 ?_
              refine st V.lss ?_
              refine st (V.pT h8) ?_
              refine sn ?_
              refine cond (fun h9 => ?_) (fun h9 => ?_)
              ·
                have k9 := bp h9
                refine AW.skip ?_
                refine AW.seq ?_
                refine AW.block ?_
                have zj : j < ((lsV (exA d n) d[p].cons[i].fields (k - 1)).take cp).length := by omega
                obtain ⟨by0, oy, hAy, Ay, cy, y0, y1, y2⟩ := (r11.upL (M' := Ml1)).at j zj
                refine AW.region ?_
                refine st V.move ?_
                refine st V.move ?_
                refine st V.move ?_
                refine st V.move ?_
                refine st (V.ib j rfl zj hAy) ?_
                first | refine st V.ld ?_ | refine sq V.lo ?_
                refine st (V.build (cells := [.int .i64 0, .int .i64 i, .slice Ay ((lsV (exA d n) d[p].cons[i].fields (k - 1)).take cp)[j].length cy]) rfl) ?_
                refine se (S.lit1 (by rfl) (by decide) ?_); intro g85
                refine se (S.ap1 (by rfl) (by omega) (by omega) ?_)
                intro A2 c2
                refine st V.assign ?_
                refine sn ?_
                refine AW.region ?_
                refine st V.move ?_
                refine st (V.add64 (by omega)) ?_
                refine st V.assign ?_
                refine sn ?_
                repeat with_reducible refine inb_normal ?_
                refine thn_normal ?_
                refine rnd (q1 - 1) _ (by omega) (List.Sublist.refl _) ⟨j + 1, l ++ [VT.mk 0 i ((lsV (exA d n) d[p].cons[i].fields (k - 1)).take cp)[j]], A2, c2, _, by simp, by rw [List.length_append]; rfl, by omega, hf.app (FlV.one (v := VT.mk 0 i ((lsV (exA d n) d[p].cons[i].fields (k - 1)).take cp)[j]) y1), mp_push (f := fun l => VT.mk 0 i l) hl (by omega) zj⟩
              ·
                have k9 := bp h9
                refine AW.exit ?_
                repeat with_reducible refine thn_exit ?_
                refine inb_exit ?_
                refine AW.region ?_
                refine st V.move ?_
                refine st (V.add64 (by omega)) ?_
                refine st V.assign ?_
                refine sn ?_
                repeat with_reducible refine inb_normal ?_
                refine thn_normal ?_
                refine rnd (q - 1) _ (by omega) (List.Sublist.refl _) ⟨i + 1, l, A', c', cs, by simp, rfl, by omega, hf.up, cq_map z5 hl (conV_4 (by omega) (by omega)) (by omega)⟩
            ·
              have k8 := bp h8
              refine off rfl h8 ?_
              refine off rfl h8 ?_
              refine off rfl h8 ?_
              refine st (V.pF h8) ?_
              refine sn ?_
              refine cond (fun h => by cases h) (fun _ => ?_)
              refine AW.exit ?_
              repeat with_reducible refine thn_exit ?_
              refine inb_exit ?_
              refine AW.region ?_
              refine st V.move ?_
              refine st (V.add64 (by omega)) ?_
              refine st V.assign ?_
              refine sn ?_
              repeat with_reducible refine inb_normal ?_
              refine thn_normal ?_
              refine rnd (q - 1) _ (by omega) (List.Sublist.refl _) ⟨i + 1, l, A', c', cs, by simp, rfl, by omega, hf.up, cq_map z5 hl (conV_4 (by omega) (by omega)) (by omega)⟩
      ·
        have k4 := bp h4
        refine AW.exit ?_
        repeat with_reducible refine thn_exit ?_
        refine inb_exit ?_
        refine AW.seq ?_
        refine AW.kp 0 fun Mv iv hkv => ?_
        refine AW.region ?_
        refine st V.move ?_
        refine st V.assign ?_
        refine sn ?_
        refine AW.ret ?_
        repeat with_reducible first | refine thn_ret ?_ | refine inb_ret ?_
        refine fin (Res.i1 rfl) ?_
        have e0 : l = (exA d (n + 1) ((p : Int) + 1) k).take cp := by rw [exA, if_neg (by omega), consF_at d p hp0]; exact cq_end hl (by omega)
        obtain ⟨hkn, hr⟩ := hkv.vals hf.up (by rw [e0, List.length_take]; omega)
        rw [← e0]
        refine ⟨_, (by repeat first | exact List.Sublist.refl _ | apply List.Sublist.cons), _, _, rfl, hr, rfl⟩
    ·
      have k3 := bp h3
      refine off rfl h3 ?_
      refine off rfl h3 ?_
      refine off rfl h3 ?_
      refine st (V.pF h3) ?_
      refine sn ?_
      refine cond (fun h => by cases h) (fun _ => ?_)
      refine AW.exit ?_
      repeat with_reducible refine thn_exit ?_
      refine inb_exit ?_
      refine AW.seq ?_
      refine AW.kp 0 fun Mv iv hkv => ?_
      refine AW.region ?_
      refine st V.move ?_
      refine st V.assign ?_
      refine sn ?_
      refine AW.ret ?_
      repeat with_reducible first | refine thn_ret ?_ | refine inb_ret ?_
      refine fin (Res.i1 rfl) ?_
      have e0 : l = (exA d (n + 1) ((p : Int) + 1) k).take cp := by rw [exA, if_neg (by omega), consF_at d p hp0]; exact cq_end hl (by omega)
      obtain ⟨hkn, hr⟩ := hkv.vals hf.up (by rw [e0, List.length_take]; omega)
      rw [← e0]
      refine ⟨_, (by repeat first | exact List.Sublist.refl _ | apply List.Sublist.cons), _, _, rfl, hr, rfl⟩
end Go.Proofs.YtieaiheejhmbfaaGreatDoor.ML
/- The reference's values with a number of cells, for every number. No conditions. -/
namespace Go.Proofs.YtieaiheejhmbfaaGreatDoor.ML
open Go.RowKit
set_option linter.unusedVariables false
set_option linter.unusedSimpArgs false
theorem r_exall_c (d : List DT) (hT : TypedP d) (hB : BdD d) (cp : Nat) (hcp : 2 ≤ cp ∧ cp ≤ 1000) : ∀ n, n ≤ 1001 → ∀ (t : Int) (k : Nat), k < n → (0 ≤ t ∧ t ≤ d.length) → ∀ (M : Mem) (H : Heap) (Ad : Option Addr) (cd : Nat), RdS 2 (RdD M) Ad cd d →
    AC Tryz.prog 55 [.slice Ad d.length cd, .int .i64 t, .int .i64 k, .int .i64 cp] M H fun r M' H' => ∃ A c, r = .slice A ((exA d n t k).take cp).length c ∧ RdS 3 (RdV M') A c ((exA d n t k).take cp) ∧ H' = H
  | 0, _, _, _, h, _ => by omega
  | n + 1, hn, t, k, hk, ht => fun M H Ad cd hd => r_ex55_c d hT hB n (by omega) cp hcp (r_exall_c d hT hB cp hcp n (by omega)) t k hk ht M H Ad cd hd
theorem r_exV_c (d : List DT) (hT : TypedP d) (hB : BdD d) (cp : Nat) (hcp : 2 ≤ cp ∧ cp ≤ 1000) (t : Int) (k : Nat) (hk : k ≤ 1000) (ht : 0 ≤ t ∧ t ≤ d.length) (M : Mem) (H : Heap) (Ad : Option Addr) (cd : Nat) (hd : RdS 2 (RdD M) Ad cd d) :
    AC Tryz.prog 55 [.slice Ad d.length cd, .int .i64 t, .int .i64 k, .int .i64 cp] M H fun r M' H' => ∃ A c, r = .slice A ((exV d t k).take cp).length c ∧ RdS 3 (RdV M') A c ((exV d t k).take cp) ∧ H' = H :=
  r_exall_c d hT hB cp hcp (k + 1) (by omega) t k (by omega) ht M H Ad cd hd
/-- A result that stands in a cell of its own. -/
theorem Res.icS {P : Program} {fn : Func} {tm : Tm} {M : Mem} {H : Heap} {t T b : Nat} {v : Value} (h : fn.results = #[.cell t T]) [Sc P T] [hg : Gt tm t (.pointer (some ⟨b, 0, none⟩))] [hc : Cg M H b 0 v] : Res P fn tm M H v := Res.cel h hg.out hc.out
/-! ### The visit of the law -/
def fW (W : List VT) (s : Nat × Nat) (v : VT) : (Nat × Nat) × Bool :=
  if h : s.1 < W.length then (if same v W[s.1] = true then (if s.1 + 1 = 80 then ((s.1 + 1, 2), false) else ((s.1 + 1, 0), true)) else ((s.1, 1), false)) else ((s.1, 1), false)
theorem fW_off {W : List VT} {n e : Nat} {v : VT} (h : ¬ n < W.length) : fW W (n, e) v = ((n, 1), false) := by unfold fW; exact dif_neg h
theorem fW_no {W : List VT} {n e : Nat} {v : VT} (h : n < W.length) (hs : same v W[n] = false) : fW W (n, e) v = ((n, 1), false) := by unfold fW; dsimp only; rw [dif_pos h, if_neg (by rw [hs]; decide)]
theorem fW_end {W : List VT} {n e : Nat} {v : VT} (h : n < W.length) (hs : same v W[n] = true) (h8 : n + 1 = 80) : fW W (n, e) v = ((n + 1, 2), false) := by unfold fW; dsimp only; rw [dif_pos h, if_pos hs, if_pos h8]
theorem fW_on {W : List VT} {n e : Nat} {v : VT} (h : n < W.length) (hs : same v W[n] = true) (h8 : n + 1 ≠ 80) : fW W (n, e) v = ((n + 1, 0), true) := by unfold fW; dsimp only; rw [dif_pos h, if_pos hs, if_neg h8]
theorem all_sfn (L : List VT) : ∀ (m n : Nat), L.length - n = m → n ≤ L.length → n < 80 → sf (fW (L.take 80)) (n, 0) (L.drop n) = if 80 ≤ L.length then ((80, 2), false) else ((L.length, 0), true)
  | 0, n, hm, hn, h8 => by
    rw [List.drop_eq_nil_of_le (by omega), sf, if_neg (by omega), show n = L.length by omega]
  | m + 1, n, hm, hn, h8 => by
    have hlt : n < L.length := by omega
    have hw : n < (L.take 80).length := by rw [List.length_take]; omega
    have he : same L[n] (L.take 80)[n] = true := by rw [List.getElem_take]; exact same_refl _
    rw [List.drop_eq_getElem_cons hlt, sf]
    by_cases h9 : n + 1 = 80
    · rw [fW_end hw he h9, if_neg (by simp), if_pos (by omega), h9]
    · rw [fW_on hw he h9, if_pos rfl]
      exact all_sfn L m (n + 1) (by omega) (by omega) (by omega)
theorem all_sf (L : List VT) : sf (fW (L.take 80)) (0, 0) L = if 80 ≤ L.length then ((80, 2), false) else ((L.length, 0), true) := all_sfn L _ 0 rfl (Nat.zero_le _) (by omega)
theorem all_sf_t {L : List VT} (h : (sf (fW (L.take 80)) (0, 0) L).2 = true) : sf (fW (L.take 80)) (0, 0) L = ((L.length, 0), true) ∧ L.length = (L.take 80).length := by
  rw [all_sf] at h ⊢
  split at h
  · cases h
  · rename_i h8; rw [if_neg h8, List.length_take]; exact ⟨rfl, by omega⟩
theorem all_sf_f {L : List VT} (h : (sf (fW (L.take 80)) (0, 0) L).2 = false) : sf (fW (L.take 80)) (0, 0) L = ((80, 2), false) ∧ 80 = (L.take 80).length := by
  rw [all_sf] at h ⊢
  split at h
  · rename_i h8; rw [if_pos h8, List.length_take]; exact ⟨rfl, by omega⟩
  · cases h
end Go.Proofs.YtieaiheejhmbfaaGreatDoor.ML
