/- The plain laws of sums over the fields of a value: reached places, numbers of parts. No conditions. -/
import Derived.Test.YtieaiheejhmbfaaGreatDoorPk24
import Derived.Laws.StructEq
namespace Go.Proofs.YtieaiheejhmbfaaGreatDoor.ML
open Go.RowKit
set_option linter.unusedVariables false
set_option linter.unusedSimpArgs false
/-! ### Contents: closed, least -/
/-- A way over types that are not flat. -/
inductive Nf (d : List DT) : Int → Int → Prop
  | refl {t : Int} (h : flatF d t = false) : Nf d t t
  | step {t f x : Int} (ht : flatF d t = false) (hf : f ∈ fieldsF d t) (h : Nf d f x) : Nf d t x
theorem Nf.end {d : List DT} {t x : Int} (h : Nf d t x) : flatF d x = false := by
  induction h with
  | refl h => exact h
  | step _ _ _ ih => exact ih
theorem cvF_rch (d : List DT) : ∀ (s : Nat) (t : Int) (l : List Int) (x : Int), x ∈ cvF d s t l → x ∈ l ∨ Nf d t x
  | 0, t, l, x, h => .inl h
  | s + 1, t, l, x, h => by
    unfold cvF at h
    split at h
    · rename_i hc
      have key : ∀ (fs : List Int) (l : List Int), (∀ f ∈ fs, f ∈ fieldsF d t) → x ∈ fs.foldl (fun l f => cvF d s f l) l → x ∈ l ∨ Nf d t x := by
        intro fs
        induction fs with
        | nil => intro l _ h; exact .inl h
        | cons f fs ih =>
          intro l hf h
          rcases ih _ (fun g hg => hf g (List.mem_cons_of_mem _ hg)) h with h | h
          · rcases cvF_rch d s f l x h with h | h
            · exact .inl h
            · exact .inr (.step hc.2 (hf f (List.mem_cons_self ..)) h)
          · exact .inr h
      rcases key _ _ (fun f hf => hf) h with h | h
      · rcases List.mem_append.1 h with h | h
        · exact .inl h
        · simp at h; subst h; exact .inr (.refl hc.2)
      · exact .inr h
    · exact .inl h
theorem cvF_sub (d : List DT) : ∀ (s : Nat) (t : Int) (l : List Int) (x : Int), x ∈ l → x ∈ cvF d s t l
  | 0, t, l, x, h => h
  | s + 1, t, l, x, h => by
    unfold cvF
    split
    · have key : ∀ (fs : List Int) (l : List Int), x ∈ l → x ∈ fs.foldl (fun l f => cvF d s f l) l := by
        intro fs
        induction fs with
        | nil => intro l h; exact h
        | cons f fs ih => intro l h; exact ih _ (cvF_sub d s f l x h)
      exact key _ _ (List.mem_append_left _ h)
    · exact h
theorem cvF_closed (d : List DT) (hT : TypedP d) : ∀ (s : Nat) (t : Int) (l : List Int), OkC d l → 0 ≤ t ∧ t ≤ d.length → d.length + 1 < s + l.length →
    (flatF d t = false → t ∈ cvF d s t l) ∧ ∀ x ∈ cvF d s t l, x ∉ l → ∀ f ∈ fieldsF d x, flatF d f = false → f ∈ cvF d s t l
  | 0, t, l, hok, ht, hs => by have := hok.okl.len; omega
  | s + 1, t, l, hok, ht, hs => by
    by_cases hin : t ∈ l
    · rw [cvF_in hin]; exact ⟨fun _ => hin, fun x hx hn => absurd hx hn⟩
    cases hfl : flatF d t with
    | true => rw [cvF_flat hfl]; exact ⟨(fun h => by cases h), fun x hx hn => absurd hx hn⟩
    | false =>
    rw [cvF_new hfl hin]
    have key : ∀ (fs : List Int) (l : List Int), OkC d l → (∀ f ∈ fs, 0 ≤ f ∧ f ≤ d.length) → d.length + 1 < s + l.length →
        (∀ f ∈ fs, flatF d f = false → f ∈ fs.foldl (fun l f => cvF d s f l) l) ∧ (∀ x ∈ l, x ∈ fs.foldl (fun l f => cvF d s f l) l) ∧ ∀ x ∈ fs.foldl (fun l f => cvF d s f l) l, x ∉ l → ∀ f ∈ fieldsF d x, flatF d f = false → f ∈ fs.foldl (fun l f => cvF d s f l) l := by
      intro fs
      induction fs with
      | nil => intro l _ _ _; exact ⟨by simp, fun x h => h, fun x hx hn => absurd hx hn⟩
      | cons f fs ih =>
        intro l hok hf hs
        have h1 := cvF_closed d hT s f l hok (hf f (List.mem_cons_self ..)) hs
        have h2 := cvF_ok d hT s f l (hf f (List.mem_cons_self ..)) hok
        obtain ⟨i1, i2, i3⟩ := ih (cvF d s f l) h2.1 (fun g hg => hf g (List.mem_cons_of_mem _ hg)) (by omega)
        refine ⟨fun g hg hgf => ?_, fun x hx => i2 x (cvF_sub d s f l x hx), fun x hx hn g hg hgf => ?_⟩
        · rcases List.mem_cons.1 hg with rfl | hg
          · exact i2 _ (h1.1 hgf)
          · exact i1 g hg hgf
        · by_cases hx1 : x ∈ cvF d s f l
          · exact i2 _ (h1.2 x hx1 hn g hg hgf)
          · exact i3 x hx hx1 g hg hgf
    have hok2 : OkC d (l ++ [t]) := ⟨nodup_push hok.1 hin, fun x hx => by
      rcases List.mem_append.1 hx with hx | hx
      · exact hok.2 x hx
      · simp at hx; subst hx; exact ⟨flatF_pos ht hfl, ht.2⟩⟩
    obtain ⟨k1, k2, k3⟩ := key (fieldsF d t) (l ++ [t]) hok2 (fields_ok hT t) (by simp; omega)
    refine ⟨fun _ => k2 t (by simp), fun x hx hn f hf hff => ?_⟩
    by_cases e : x = t
    · subst e; exact k1 f hf hff
    · exact k3 x hx (by simp [hn, e]) f hf hff
theorem cont_nf {d : List DT} {t x : Int} (h : x ∈ contF d t) : Nf d t x := by
  rcases cvF_rch d _ t [] x h with h | h
  · simp at h
  · exact h
theorem nf_cont {d : List DT} (hT : TypedP d) {t : Int} (ht : 0 ≤ t ∧ t ≤ d.length) {x : Int} (h : Nf d t x) : x ∈ contF d t := by
  have hc := cvF_closed d hT (d.length + 2) t [] ⟨by simp, by simp⟩ ht (by simp)
  have key : ∀ y x, Nf d y x → y ∈ contF d t → x ∈ contF d t := by
    intro y x h
    induction h with
    | refl _ => exact fun h => h
    | step h1 h2 h3 ih =>
      intro hy
      refine ih (hc.2 _ hy (by simp) _ h2 ?_)
      cases h3 with
      | refl h => exact h
      | step h _ _ => exact h
  refine key t x h (hc.1 ?_)
  cases h with
  | refl h => exact h
  | step h _ _ => exact h
theorem of_mem {d : List DT} {t : Int} {x : Int × Int} : x ∈ ofF d t ↔ (checkF d = 0 ∧ 0 ≤ t ∧ t ≤ d.length) ∧ x.1 ∈ contF d t ∧ ∃ k : Nat, k < (consF d x.1).length ∧ x.2 = (k : Int) := by
  unfold ofF
  split
  · rename_i h
    unfold placesF
    rw [List.mem_flatMap]
    constructor
    · rintro ⟨y, hy, hx⟩
      obtain ⟨k, hk, rfl⟩ := List.mem_map.1 hx
      exact ⟨h, hy, k, by simpa using hk, rfl⟩
    · rintro ⟨_, hy, k, hk, e⟩
      exact ⟨x.1, hy, List.mem_map.2 ⟨k, by simpa using hk, by rw [← e]⟩⟩
  · rename_i h
    exact ⟨fun hx => by simp at hx, fun hx => absurd hx.1 h⟩
theorem flat_fields {d : List DT} {t f : Int} (ht : 0 ≤ t ∧ t ≤ d.length) (h : f ∈ fieldsF d t) : flatF d t = false := by
  unfold fieldsF at h
  obtain ⟨c, hc, hf⟩ := List.mem_flatMap.1 h
  unfold flatF
  rw [List.any_eq_true.2 ⟨c, hc, by have := List.length_pos_of_mem hf; simp; omega⟩]
  simp
theorem of_sub {d : List DT} (hT : TypedP d) {t f : Int} (ht : 0 ≤ t ∧ t ≤ d.length) (hf : f ∈ fieldsF d t) {x : Int × Int} (hx : x ∈ ofF d f) : x ∈ ofF d t := by
  obtain ⟨h1, h2, h3⟩ := of_mem.1 hx
  exact of_mem.2 ⟨⟨h1.1, ht⟩, nf_cont hT ht (.step (flat_fields ht hf) hf (cont_nf h2)), h3⟩
/-! ### Numbers of parts -/
mutual
def cntV (d : List DT) (x : Int × Int) : Int → VT → Int
  | t, .mk num con args => if t = 0 then 0 else (if (t, con) = x then 1 else 0) + cntL d x (fldV d t (.mk num con args)) args
def cntL (d : List DT) (x : Int × Int) : List Int → List VT → Int
  | _, [] => 0
  | ts, v :: vs => cntV d x (ts.headD 0) v + cntL d x ts.tail vs
end
theorem cntV_eq (d : List DT) (x : Int × Int) (t : Int) (v : VT) : cntV d x t v = if t = 0 then 0 else (if (t, v.con) = x then 1 else 0) + cntL d x (fldV d t v) v.args := by cases v; rw [cntV]; rfl
theorem cntL_take (d : List DT) (x : Int × Int) : ∀ (vs : List VT) (ts : List Int) (i : Nat) (h : i < vs.length) (h' : i < ts.length), cntL d x (ts.take (i + 1)) (vs.take (i + 1)) = cntL d x (ts.take i) (vs.take i) + cntV d x ts[i] vs[i]
  | v :: vs, t :: ts, 0, _, _ => by simp [cntL]
  | v :: vs, t :: ts, i + 1, h, h' => by
    have := cntL_take d x vs ts i (by simpa using h) (by simpa using h')
    simp only [List.take_succ_cons, cntL, List.headD_cons, List.tail_cons, List.getElem_cons_succ] at this ⊢
    rw [this]; omega
theorem cntL_ne (d : List DT) (x : Int × Int) : ∀ (vs : List VT) (ts : List Int), vs.length ≤ ts.length → cntL d x ts vs ≠ 0 → ∃ (i : Nat) (h : i < vs.length) (h' : i < ts.length), cntV d x ts[i] vs[i] ≠ 0
  | [], ts, _, h => by rw [cntL] at h; exact absurd rfl h
  | v :: vs, [], hl, _ => by simp at hl
  | v :: vs, t :: ts, hl, h => by
    rw [cntL] at h
    by_cases h0 : cntV d x t v = 0
    · obtain ⟨i, h1, h2, h3⟩ := cntL_ne d x vs ts (by simpa using hl) (by intro e; apply h; simp [h0, e])
      exact ⟨i + 1, by simp; omega, by simp; omega, by simpa using h3⟩
    · exact ⟨0, by simp, by simp, h0⟩
theorem cnt_place (d : List DT) (x : Int × Int) (hx : flatF d x.1 = false) : ∀ (z : Nat) (v : VT) (t : Int), SizeOf.sizeOf v < z → 0 ≤ t ∧ t ≤ d.length → TypedP d → TyV d t v → cntV d x t v ≠ 0 → Nf d t x.1 ∧ ∃ k : Nat, k < (consF d x.1).length ∧ x.2 = (k : Int)
  | 0, _, _, hz, _, _, _, _ => by omega
  | z + 1, v, t, hz, ht, hT, hty, h => by
    rw [cntV_eq] at h
    by_cases h0 : t = 0
    · rw [if_pos h0] at h; exact absurd rfl h
    rw [if_neg h0] at h
    obtain ⟨p, k, hp, hk, rfl, hn, hc, hl, hch⟩ := hty.conE h0
    by_cases e : ((p : Int) + 1, v.con) = x
    · subst e
      exact ⟨.refl hx, k, by rw [consF_at d p hp]; exact hk, hc⟩
    rw [if_neg e, Int.zero_add, fldV_at d p hp v k hc hk] at h
    obtain ⟨i, h1, h2, h3⟩ := cntL_ne d x v.args d[p].cons[k].fields (by omega) h
    have hf : d[p].cons[k].fields[i] ∈ fieldsF d ((p : Int) + 1) := by
      rw [fields_at d p hp, List.mem_flatMap]
      exact ⟨_, List.getElem_mem hk, List.getElem_mem h2⟩
    have ih := cnt_place d x hx z v.args[i] _ (by have := List.sizeOf_lt_of_mem (List.getElem_mem h1); cases v; simp [VT.args] at *; omega) (hT p hp k hk _ (List.getElem_mem h2)) hT (hch i h1 h2) h3
    exact ⟨.step (flat_fields ht hf) hf ih.1, ih.2⟩
/-- What is counted over the places ps, over what stood in out. -/
def Cnt (ps : List (Int × Int)) (out : List Int) (h : Int × Int → Int) (L : List Int) : Prop := L.length = ps.length ∧ ∀ i (hi : i < ps.length), L.getD i 0 = IntKind.i64.wrap (out.getD i 0 + h ps[i])
def InW (out : List Int) : Prop := ∀ i, IntKind.i64.wrap (out.getD i 0) = out.getD i 0
theorem wrap_def (a : Int) : IntKind.i64.wrap a = if 9223372036854775808 ≤ a % 18446744073709551616 then a % 18446744073709551616 - 18446744073709551616 else a % 18446744073709551616 := by
  unfold IntKind.wrap
  simp [IntKind.bits, IntKind.signed]
theorem wrap_rng (a : Int) : -9223372036854775808 ≤ IntKind.i64.wrap a ∧ IntKind.i64.wrap a ≤ 9223372036854775807 := by
  rw [wrap_def]
  split <;> omega
theorem wrap_mod (a : Int) : ∃ k : Int, IntKind.i64.wrap a = a + 18446744073709551616 * k := by
  rw [wrap_def]
  split
  · exact ⟨-(a / 18446744073709551616) - 1, by omega⟩
  · exact ⟨-(a / 18446744073709551616), by omega⟩
theorem wrap_uniq {a b : Int} (h : ∃ k : Int, a = b + 18446744073709551616 * k) : IntKind.i64.wrap a = IntKind.i64.wrap b := by
  obtain ⟨k, hk⟩ := h
  obtain ⟨x, hx⟩ := wrap_mod a
  obtain ⟨y, hy⟩ := wrap_mod b
  have h1 := wrap_rng a
  have h2 := wrap_rng b
  omega
theorem wrap_wrap (a b : Int) : IntKind.i64.wrap (IntKind.i64.wrap a + b) = IntKind.i64.wrap (a + b) := by
  obtain ⟨x, hx⟩ := wrap_mod a
  exact wrap_uniq ⟨x, by omega⟩
theorem wrap_wrap2 (a b : Int) : IntKind.i64.wrap (IntKind.i64.wrap a + IntKind.i64.wrap b) = IntKind.i64.wrap (a + b) := by
  obtain ⟨x, hx⟩ := wrap_mod a
  obtain ⟨y, hy⟩ := wrap_mod b
  exact wrap_uniq ⟨x + y, by omega⟩
theorem Cnt.inW {ps : List (Int × Int)} {out L : List Int} {h : Int × Int → Int} (c : Cnt ps out h L) : InW L := fun i => by
  by_cases hi : i < ps.length
  · rw [c.2 i hi]; have := wrap_wrap (out.getD i 0 + h ps[i]) 0; simpa using this
  · have : L.getD i 0 = 0 := by simp [List.getD, show L[i]? = none from List.getElem?_eq_none (by rw [c.1]; omega)]
    rw [this]; rfl
theorem InW.zero (n : Nat) : InW (List.replicate n 0) := fun i => by
  have : (List.replicate n (0 : Int)).getD i 0 = 0 := by by_cases hi : i < n <;> simp [List.getD, List.getElem?_replicate, hi]
  rw [this]; rfl
theorem Cnt.refl {ps : List (Int × Int)} {out : List Int} (hl : out.length = ps.length) (hw : InW out) : Cnt ps out (fun _ => 0) out := ⟨hl, fun i hi => by rw [Int.add_zero, hw i]⟩
theorem Cnt.trans {ps : List (Int × Int)} {out L L' : List Int} {h h' : Int × Int → Int} (c : Cnt ps out h L) (c' : Cnt ps L h' L') : Cnt ps out (fun x => h x + h' x) L' := ⟨c'.1, fun i hi => by
  rw [c'.2 i hi, c.2 i hi, wrap_wrap, Int.add_assoc]⟩
theorem Cnt.congr {ps : List (Int × Int)} {out L : List Int} {h h' : Int × Int → Int} (c : Cnt ps out h L) (e : ∀ x ∈ ps, h x = h' x) : Cnt ps out h' L := ⟨c.1, fun i hi => by rw [c.2 i hi, e _ (List.getElem_mem hi)]⟩
theorem Cnt.uniq {ps : List (Int × Int)} {out L L' : List Int} {h : Int × Int → Int} (c : Cnt ps out h L) (c' : Cnt ps out h L') : L = L' := by
  apply List.ext_getElem (c.1.trans c'.1.symm)
  intro i h1 h2
  have e1 := c.2 i (by rw [← c.1]; exact h1)
  have e2 := c'.2 i (by rw [← c.1]; exact h1)
  have := e1.trans e2.symm
  simpa [List.getD, h1, h2] using this
theorem Cnt.put {ps : List (Int × Int)} (hn : ps.Nodup) {out L : List Int} {h h' : Int × Int → Int} (c : Cnt ps out h L) {x : Int × Int} (hx : x ∈ ps) {u : Int} (hu : u = IntKind.i64.wrap (out.getD (ps.idxOf x) 0 + h' x)) (e : ∀ y, y ≠ x → h' y = h y) : Cnt ps out h' (L.set (ps.idxOf x) u) := by
  have hix := List.idxOf_lt_length_of_mem hx
  refine ⟨by simp [c.1], fun i hi => ?_⟩
  have hgx : ps[ps.idxOf x] = x := List.getElem_idxOf hix
  by_cases hi2 : i = ps.idxOf x
  · subst hi2
    rw [show (L.set (ps.idxOf x) u).getD (ps.idxOf x) 0 = u by simp [List.getD, c.1, hix], hu, hgx]
  · have hne : ps[i] ≠ x := fun he => hi2 (by rw [← he]; exact (List.Nodup.idxOf_getElem hn i hi).symm)
    rw [show (L.set (ps.idxOf x) u).getD i 0 = L.getD i 0 by simp [List.getD, List.getElem?_set, Ne.symm hi2], c.2 i hi, e _ hne]
theorem cnt_count {ps : List (Int × Int)} (hn : ps.Nodup) {out : List Int} (hl : out.length = ps.length) (hw : InW out) (t con : Int) (ht : t ≠ 0) : Cnt ps out (fun x => if (t, con) = x then 1 else 0) (countF ps out t con) := by
  have hr := Cnt.refl hl hw
  unfold countF
  by_cases h : (t, con) ∈ ps ∧ t ≠ 0
  · rw [if_pos h]
    exact hr.put hn h.1 (by rw [if_pos rfl]) (fun y hy => by rw [if_neg (Ne.symm hy)])
  · rw [if_neg h]
    exact hr.congr fun x hx => by rw [if_neg (fun e => h ⟨by rw [e]; exact hx, ht⟩)]
mutual
theorem fV_cnt (d : List DT) {ps : List (Int × Int)} (hn : ps.Nodup) : ∀ (t : Int) (v : VT) (out : List Int), out.length = ps.length → InW out → Cnt ps out (fun x => cntV d x t v) (fV d (countF ps) t v out)
  | t, .mk num con args, out, hl, hw => by
    rw [fV]
    by_cases h0 : t = 0
    · rw [if_pos h0, countF, if_neg (fun h => h.2 h0)]
      exact (Cnt.refl hl hw).congr fun x _ => by rw [cntV, if_pos h0]
    · rw [if_neg h0]
      have h1 := cnt_count hn hl hw t con h0
      have h2 := fL_cnt d hn (fldV d t (.mk num con args)) args (countF ps out t con) h1.1 h1.inW
      exact (h1.trans h2).congr fun x _ => by rw [cntV, if_neg h0]
theorem fL_cnt (d : List DT) {ps : List (Int × Int)} (hn : ps.Nodup) : ∀ (ts : List Int) (vs : List VT) (out : List Int), out.length = ps.length → InW out → Cnt ps out (fun x => cntL d x ts vs) (fL d (countF ps) ts vs out)
  | ts, [], out, hl, hw => by rw [fL]; exact (Cnt.refl hl hw).congr fun x _ => by rw [cntL]
  | ts, v :: vs, out, hl, hw => by
    rw [fL]
    have h1 := fV_cnt d hn (ts.headD 0) v out hl hw
    exact (h1.trans (fL_cnt d hn ts.tail vs _ h1.1 h1.inW)).congr fun x _ => by rw [cntL]
end
theorem Cnt.add {ps psi : List (Int × Int)} (hn : ps.Nodup) (hni : psi.Nodup) {L S K : List Int} {g : Int × Int → Int} {j : Nat} (c : Cnt ps L (fun x => if x ∈ psi.take j then g x else 0) S) (cK : Cnt psi (List.replicate psi.length 0) g K) (hj : j < psi.length) (hx : psi[j] ∈ ps) :
    Cnt ps L (fun x => if x ∈ psi.take (j + 1) then g x else 0) (S.set (ps.idxOf psi[j]) (IntKind.i64.wrap (S.getD (ps.idxOf psi[j]) 0 + K.getD j 0))) := by
  have hix := List.idxOf_lt_length_of_mem hx
  have hgx : ps[ps.idxOf psi[j]] = psi[j] := List.getElem_idxOf hix
  have hnt : psi[j] ∉ psi.take j := fun hm => by
    have h5 := hni
    rw [← List.take_append_drop j psi, List.nodup_append] at h5
    exact h5.2.2 _ hm _ (by rw [List.drop_eq_getElem_cons hj]; exact List.mem_cons_self ..) rfl
  have h0 : (List.replicate psi.length (0 : Int)).getD j 0 = 0 := by simp [List.getD, List.getElem?_replicate, hj]
  refine c.put hn hx ?_ fun y hy => ?_
  · rw [c.2 _ hix, cK.2 j hj, hgx]
    dsimp only
    rw [if_neg hnt, if_pos (by rw [take_succ _ _ hj, List.mem_append]; exact .inr (List.mem_singleton.2 rfl)), wrap_wrap2, h0]
    congr 1
    omega
  · have : y ∈ psi.take (j + 1) ↔ y ∈ psi.take j := by rw [take_succ _ _ hj, List.mem_append, List.mem_singleton]; exact ⟨fun hh => hh.resolve_right hy, .inl⟩
    by_cases hm : y ∈ psi.take j
    · rw [if_pos hm, if_pos (this.2 hm)]
    · rw [if_neg hm, if_neg (fun h => hm (this.1 h))]
theorem cnt_zero {d : List DT} {t f : Int} {v : VT} (hck : checkF d = 0) (hT : TypedP d) (hf : 0 ≤ f ∧ f ≤ d.length) (hty : TyV d f v) {x : Int × Int} (hx : x ∈ ofF d t) (hn : x ∉ ofF d f) : cntV d x f v = 0 := by
  by_cases h : cntV d x f v = 0
  · exact h
  · obtain ⟨_, h2, _⟩ := of_mem.1 hx
    obtain ⟨h3, h4⟩ := cnt_place d x (cont_nf h2).end (SizeOf.sizeOf v + 1) v f (by omega) hf hT hty h
    exact absurd (of_mem.2 ⟨⟨hck, hf⟩, nf_cont hT hf h3, h4⟩) hn
theorem counts_err (d : List DT) (t : Int) (v : VT) : (countsF d t v).2 = (cellsF d t v).2 := by
  unfold countsF
  split
  · rfl
  · rename_i h; simp at h; rw [h]
theorem counts_cnt {d : List DT} {t : Int} {v : VT} (h : (cellsF d t v).2 = 0) : Cnt (ofF d t) (List.replicate (ofF d t).length 0) (fun x => cntV d x t v) (countsF d t v).1 := by
  rw [counts_fV h]
  exact fV_cnt d (of_nodup d t) t v _ (by simp) (InW.zero _)
def idxF (ps : List (Int × Int)) (x : Int × Int) : Int := if x ∈ ps then ((ps.idxOf x : Nat) : Int) else -1
theorem idxF_hit {ps : List (Int × Int)} (hn : ps.Nodup) (i : Nat) (h : i < ps.length) {x : Int × Int} (e : ps[i] = x) : idxF ps x = i := by
  rw [idxF, if_pos (by rw [← e]; exact List.getElem_mem h), ← e, List.Nodup.idxOf_getElem hn i h]
theorem idxF_out {ps : List (Int × Int)} {x : Int × Int} (h : ∀ k (hk : k < ps.length), ps[k] ≠ x) : idxF ps x = -1 := by
  rw [idxF, if_neg (fun hm => by obtain ⟨k, hk, e⟩ := List.getElem_of_mem hm; exact h k hk e)]
theorem idxF_in {ps : List (Int × Int)} {x : Int × Int} (h : x ∈ ps) : idxF ps x = ((ps.idxOf x : Nat) : Int) := by rw [idxF, if_pos h]
/-! ### Numbers of cells -/
mutual
theorem wV_add (d : List DT) : ∀ (t : Int) (v : VT) (n m : Nat), m ≤ n → n ≤ 65536 → (wV d (fun (_ : Unit) _ _ => ()) t v n ()).1 = 0 → (wV d (fun (_ : Unit) _ _ => ()) t v m ()).1 = 0 ∧ (wV d (fun (_ : Unit) _ _ => ()) t v n ()).2.1 + m = n + (wV d (fun (_ : Unit) _ _ => ()) t v m ()).2.1 ∧ n ≤ (wV d (fun (_ : Unit) _ _ => ()) t v n ()).2.1
  | t, .mk num con args, n, m, hm, hn, h => by
    rw [wV] at h
    rw [wV, wV]
    by_cases hb : badV d t (.mk num con args) = true
    · rw [if_pos hb] at h; simp at h
    rw [if_neg hb] at h
    rw [if_neg hb, if_neg hb]
    by_cases h0 : t = 0
    · rw [if_pos h0, if_pos h0]; exact ⟨rfl, by show n + m = n + m; rfl, Nat.le_refl _⟩
    rw [if_neg h0] at h
    rw [if_neg h0, if_neg h0]
    by_cases h18 : 0 < args.length ∧ n = 65536
    · rw [if_pos h18] at h; simp at h
    rw [if_neg h18] at h
    have h19 : ¬ (0 < args.length ∧ m = 65536) := fun hh => h18 ⟨hh.1, by omega⟩
    rw [if_neg h18, if_neg h19]
    by_cases ha : 0 < args.length
    · rw [if_pos ha] at h
      rw [if_pos ha, if_pos ha]
      have := wL_add d (fldV d t (.mk num con args)) args (n + 1) (m + 1) (by omega) (by omega) h
      exact ⟨this.1, by omega, by omega⟩
    · rw [if_neg ha] at h
      rw [if_neg ha, if_neg ha]
      exact wL_add d (fldV d t (.mk num con args)) args n m hm hn h
theorem wL_add (d : List DT) : ∀ (ts : List Int) (vs : List VT) (n m : Nat), m ≤ n → n ≤ 65536 → (wL d (fun (_ : Unit) _ _ => ()) ts vs n ()).1 = 0 → (wL d (fun (_ : Unit) _ _ => ()) ts vs m ()).1 = 0 ∧ (wL d (fun (_ : Unit) _ _ => ()) ts vs n ()).2.1 + m = n + (wL d (fun (_ : Unit) _ _ => ()) ts vs m ()).2.1 ∧ n ≤ (wL d (fun (_ : Unit) _ _ => ()) ts vs n ()).2.1
  | ts, [], n, m, hm, hn, h => by rw [wL, wL]; exact ⟨rfl, rfl, Nat.le_refl _⟩
  | ts, v :: vs, n, m, hm, hn, h => by
    rw [wL] at h
    rw [wL, wL]
    by_cases he : (wV d (fun (_ : Unit) _ _ => ()) (ts.headD 0) v n ()).1 ≠ 0
    · rw [if_pos he] at h; exact absurd h he
    rw [if_neg he] at h
    have h1 := wV_add d (ts.headD 0) v n m hm hn (by simpa using he)
    rw [if_neg he, if_neg (fun hh => hh h1.1)]
    rw [show (wV d (fun (_ : Unit) _ _ => ()) (ts.headD 0) v n ()).2.2 = () from rfl] at h ⊢
    have h2 := wL_add d ts.tail vs _ (wV d (fun (_ : Unit) _ _ => ()) (ts.headD 0) v m ()).2.1 (by omega) (wV_le d _ _ _ _ _ hn) h
    exact ⟨h2.1, by have := h2.2.1; omega, by have := h2.2.2; omega⟩
end
theorem cells_at {d : List DT} {t : Int} {v : VT} (h : (cellsF d t v).2 = 0) : cellsF d t v = ((((wV d (fun (_ : Unit) _ _ => ()) t v 0 ()).2.1 : Nat) : Int), 0) := by
  have h1 := cells_w h
  unfold cellsF at h ⊢
  split at h
  · rename_i h2; exact absurd h h2
  rename_i h2
  rw [if_neg h2, if_neg (fun hh => hh h1)]
theorem cells_of {d : List DT} {t : Int} {v : VT} (hck : checkF d = 0) (ht : 0 ≤ t ∧ t ≤ d.length) (h : (wV d (fun (_ : Unit) _ _ => ()) t v 0 ()).1 = 0) : (cellsF d t v).2 = 0 := by
  have h0 : tableF d t = 0 := by unfold tableF; rw [if_neg (fun hh => hh hck), if_neg (by omega)]
  unfold cellsF
  rw [if_neg (fun hh => hh h0), if_neg (fun hh => hh h)]
section
variable {tm : Tm} {M : Mem} {gd : Option (Nat × Bool)} {ty : TypeId} {pos : String} {aft : Array Edge} {x y : Operand} {T' : TypeId} {dd : Option Tmp} {a b c e : Int}
/-- Two places compared. -/
theorem V.eqPl [hx : Ev tm x (.agg [Value.int .i64 a, .int .i64 b].toArray)] [hy : Ev tm y (.agg [Value.int .i64 c, .int .i64 e].toArray)] : PVM Tryz.prog ⟨dd, .binOp .eql 65 x y T', ty, pos, aft, gd⟩ tm M (.bool (decide ((a, b) = (c, e)))) :=
  .mk rfl (fun w => by
    simp only [execOp, hx.out, hy.out]
    refine run_v ?_
    have u3 := Tryz.underlying3
    have u23 := Tryz.underlying23
    have hS : Tryz.prog.underlying 65 = some (.struct (Tryz.prog.fieldsOf 65)) := by kernel_rfl
    have hp : Tryz.prog.stoodInHeld 65 = false := by kernel_rfl
    have hg : Tryz.prog.eqGuardType Tryz.prog.depth 65 = false := by kernel_rfl
    have i3 : i64B Tryz.prog 3 = true := by kernel_rfl
    have i23 : i64B Tryz.prog 23 = true := by kernel_rfl
    rw [Sem.run_bind, run_eqGuard_agg w _ _ _ _ _ _ hg, Result.andThen_ok, run_eql_struct, show (10000 : Nat) = 9999 + 1 from rfl, run_equalIn_agg w 9999 65 _ _ hS hp]
    simp only [Program.fieldsOf, Tryz.underlying65]
    have p0 : ∀ u v : Value, (part 23 [u, v].toArray 0).run Tryz.prog w = .ok u w := fun u v => run_part_i64 i23 _ 0 _ rfl w
    have p1 : ∀ u v : Value, (part 3 [u, v].toArray 1).run Tryz.prog w = .ok v w := fun u v => run_part_i64 i3 _ 1 _ rfl w
    have q3 : ∀ u v : Int, (Op.equalIn 9999 3 (.int .i64 u) (.int .i64 v)).run Tryz.prog w = .ok (u == v) w := fun u v => run_equalIn_int w 9998 3 .i64 .i64 u v u3
    simp only [Op.eqFields]
    rw [if_pos (by decide), if_pos (by decide)]
    simp only [Sem.run_bind, p0, p1, Result.andThen_ok, run_equalIn_int w 9998 23 .i64 .i64 a c u23, run_equalIn_int w 9998 3 .i64 .i64 b e u3]
    by_cases h1 : a = c
    · by_cases h2 : b = e
      · simp [h1, h2, p1, q3]
      · simp [h1, h2, p1, q3]
    · simp [h1])
end
end Go.Proofs.YtieaiheejhmbfaaGreatDoor.ML
