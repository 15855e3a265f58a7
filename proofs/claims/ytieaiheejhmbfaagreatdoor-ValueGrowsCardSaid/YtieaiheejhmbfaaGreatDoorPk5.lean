/- The plain laws of counts: places and their indices. No conditions. -/
import Derived.Test.YtieaiheejhmbfaaGreatDoorPk4
namespace Go.Proofs.YtieaiheejhmbfaaGreatDoor.ML
open Go.RowKit
set_option linter.unusedVariables false
set_option linter.unusedSimpArgs false
section
variable {P : Program} {ro : RO} {Q : Post} {rest : List Oper} {tm : Tm} {F : Value → Tm} {M : Mem} {H H' : Heap} {K : Tm → Mem → Heap → Prop} {gd : Option (Nat × Bool)}
variable {d : Nat} {ty : TypeId} {pos : String} {aft : Array Edge} {x : Operand} {T : TypeId}
theorem S.makeMapR {kt et : TypeId} {KK : Value → Prop} {n : Int} [hT : Mp P T kt et KK] [hx : Ev tm x (.int .i64 n)] [hp : Pt tm d F] (h : ∀ b, K (F (.map (some b))) M (.mp b KK (fun _ => none) :: H)) : AS P ro ⟨some d, .makeMap T (some x), ty, pos, aft, gd⟩ tm M H K :=
  AS.val rfl fun g w hS => by
    refine ⟨.map (some w.heap.size), w.alloc (.map #[] 0), M, .mp w.heap.size KK (fun _ => none) :: H, ?_, .refl M, ?_, ?_⟩
    · simp only [execOp, Option.map_some, hx.out]
      refine run_v ?_
      simp [Instr.makeMap, run_underlying hT.out, asInt, asIntOf]
    · exact St.turn (E := []) _ hS rfl rfl rfl (by simp) ⟨#[], 0, World.alloc_heap_new w _, Rep.empty⟩ (fun k hk _ => Below.heap_alloc w _ k hk) (fun k hk => by simp [Ent.fp] at hk; subst hk; exact .inr (Nat.le_refl _)) (by simp [Ent.fp])
    · show K (tm.set d _) M _; rw [hp.out]; exact h _
end
/-- A heap's halves changed over for a call. -/
theorem AC.swap {P : Program} {f : Nat} {az : List Value} {M : Mem} {E J : Heap} {R : Value → Mem → Heap → Prop} (h : AC P f az M (J ++ E) fun v M' H' => ∃ J', H' = J' ++ E ∧ R v M' (E ++ J')) : AC P f az M (E ++ J) R := fun g w hS =>
  (h g w (hS.perm List.perm_append_comm)).mono fun e w' ⟨v, M', H', h1, h2, h3, J', h4, h5⟩ => ⟨v, M', E ++ J', h1, h2, h3.perm (by rw [h4]; exact List.perm_append_comm), h5⟩
def plV (x : Int × Int) : Value := .agg #[.int .i64 x.1, .int .i64 x.2]
theorem plV_inj {x y : Int × Int} (h : plV x = plV y) : x = y := by
  obtain ⟨a, b⟩ := x; obtain ⟨c, e⟩ := y
  simp [plV] at h; simp [h]
def IdxM (ps : List (Int × Int)) (m : Value → Option Value) : Prop := ∀ x : Int × Int, m (plV x) = if x ∈ ps then some (.int .i64 (ps.idxOf x : Nat)) else none
theorem IdxM.nil : IdxM [] (fun _ => none) := fun x => by simp
theorem IdxM.push {ps : List (Int × Int)} {m : Value → Option Value} (h : IdxM ps m) {p : Int × Int} (hp : p ∉ ps) : IdxM (ps ++ [p]) (upd m (plV p) (.int .i64 ps.length)) := fun x => by
  by_cases e : x = p
  · subst e
    rw [upd_self, if_pos (by simp), List.idxOf_append, if_neg hp]
    simp
  · rw [upd_ne (fun h => e (plV_inj h)), h x]
    by_cases hx : x ∈ ps
    · rw [if_pos hx, if_pos (List.mem_append_left _ hx), List.idxOf_append, if_pos hx]
    · rw [if_neg hx, if_neg (by simp [hx, e])]
def idxD (ps : List (Int × Int)) (x : Int × Int) : Int := if x ∈ ps then (ps.idxOf x : Nat) else 0
theorem IdxM.getD {ps : List (Int × Int)} {m : Value → Option Value} (h : IdxM ps m) (t con : Int) : (m (.agg [Value.int .i64 t, .int .i64 con].toArray)).getD (.int .i64 0) = .int .i64 (idxD ps (t, con)) := by
  have := h (t, con)
  simp only [plV] at this
  rw [show (.agg [Value.int .i64 t, .int .i64 con].toArray : Value) = .agg #[.int .i64 t, .int .i64 con] from rfl, this, idxD]
  split <;> rfl
theorem IdxM.some {ps : List (Int × Int)} {m : Value → Option Value} (h : IdxM ps m) (t con : Int) : (m (.agg [Value.int .i64 t, .int .i64 con].toArray)).isSome = decide ((t, con) ∈ ps) := by
  have := h (t, con)
  simp only [plV] at this
  rw [show (.agg [Value.int .i64 t, .int .i64 con].toArray : Value) = .agg #[.int .i64 t, .int .i64 con] from rfl, this]
  split <;> simp_all
def countF (ps : List (Int × Int)) (out : List Int) (t con : Int) : List Int := if (t, con) ∈ ps ∧ t ≠ 0 then out.set (ps.idxOf (t, con)) (IntKind.i64.wrap (out.getD (ps.idxOf (t, con)) 0 + 1)) else out
theorem countF_len (ps : List (Int × Int)) (out : List Int) (t con : Int) : (countF ps out t con).length = out.length := by unfold countF; split <;> simp
theorem madeCells_int (n : Nat) : (madeCells (Value.int .i64 0).cells n).toList = (List.replicate n (0 : Int)).map (.int .i64) := by
  rw [show (Value.int .i64 0).cells = #[Value.int .i64 0] from rfl, toList_madeCells_one, List.map_replicate]
/-- Counts: the numbers by places, and the error. -/
noncomputable def countsF (d : List DT) (t : Int) (v : VT) : List Int × Int :=
  if (cellsF d t v).2 ≠ 0 then ([], (cellsF d t v).2) else ((wV d (countF (ofF d t)) t v 0 (List.replicate (ofF d t).length 0)).2.2, 0)
theorem places_nodup (d : List DT) : ∀ {l : List Int}, l.Nodup → (placesF d l).Nodup
  | [], _ => by simp [placesF]
  | x :: l, h => by
    rw [List.nodup_cons] at h
    unfold placesF
    rw [List.flatMap_cons, List.nodup_append]
    refine ⟨?_, places_nodup d h.2, fun a ha b hb hab => ?_⟩
    · rw [List.nodup_iff_pairwise_ne, List.pairwise_map]
      exact (List.nodup_iff_pairwise_ne.1 List.nodup_range).imp fun h e => h (by simp at e; omega)
    · subst hab
      obtain ⟨k, _, rfl⟩ := List.mem_map.1 ha
      obtain ⟨y, hy, hk⟩ := List.mem_flatMap.1 hb
      obtain ⟨k', _, e⟩ := List.mem_map.1 hk
      simp at e
      exact h.1 (e.1 ▸ hy)
theorem of_nodup (d : List DT) (t : Int) : (ofF d t).Nodup := by
  unfold ofF
  split
  · rename_i h
    exact places_nodup d (cvF_ok d (checkF_ok h.1).2.2.2.1 (d.length + 2) t [] h.2 ⟨by simp, by simp⟩).1.1
  · exact List.nodup_nil
theorem of_bd (d : List DT) (t : Int) : (ofF d t).length ≤ 1040 := by
  unfold ofF
  split
  · rename_i h
    have hc := checkF_ok h.1
    have hb := many_bd hc.1
    have h1 := places_bd d hb.2 (contF d t)
    have h2 : OkC d (contF d t) := (cvF_ok d hc.2.2.2.1 (d.length + 2) t [] h.2 ⟨by simp, by simp⟩).1
    have := h2.okl.len
    omega
  · simp
theorem cells_ok {d : List DT} {t : Int} {v : VT} (h : (cellsF d t v).2 = 0) : TypedP d ∧ 0 ≤ t ∧ t ≤ d.length ∧ checkF d = 0 := by
  unfold cellsF at h
  split at h
  · rename_i h1; exact absurd h h1
  · rename_i h1
    have := tableF_ok (by simpa using h1)
    exact ⟨(checkF_ok this.1).2.2.2.1, this.2.1, this.2.2, this.1⟩
theorem counts_len {σ : Type} (d : List DT) (f : σ → Int → Int → σ) (I : σ → Prop) (hf : ∀ s t con, I s → I (f s t con)) : (∀ (t : Int) (v : VT) (n : Nat) (s : σ), I s → I (wV d f t v n s).2.2) ∧ True := by
  refine ⟨?_, trivial⟩
  have key : ∀ z : Nat, (∀ (t : Int) (v : VT) (n : Nat) (s : σ), SizeOf.sizeOf v < z → I s → I (wV d f t v n s).2.2) ∧ (∀ (ts : List Int) (vs : List VT) (n : Nat) (s : σ), SizeOf.sizeOf vs < z → I s → I (wL d f ts vs n s).2.2) := by
    intro z
    induction z with
    | zero => exact ⟨fun _ _ _ _ h => by omega, fun _ _ _ _ h => by omega⟩
    | succ z ih =>
      refine ⟨fun t v n s hz hs => ?_, fun ts vs n s hz hs => ?_⟩
      · obtain ⟨num, con, al⟩ := v
        rw [wV]
        split
        · exact hs
        split
        · exact hf _ _ _ hs
        split
        · exact hs
        · exact ih.2 _ _ _ _ (by simp at hz; omega) (hf _ _ _ hs)
      · cases vs with
        | nil => rw [wL]; exact hs
        | cons v vs =>
          simp at hz
          rw [wL]
          split
          · exact ih.1 _ _ _ _ (by omega) hs
          · exact ih.2 _ _ _ _ (by omega) (ih.1 _ _ _ _ (by omega) hs)
  exact fun t v n s hs => (key _).1 t v n s (Nat.lt_succ_self _) hs
end Go.Proofs.YtieaiheejhmbfaaGreatDoor.ML
/- The plain laws of the statements' own helpers: sizes, small tables. No conditions. -/
namespace Go.Proofs.YtieaiheejhmbfaaGreatDoor.ML
open Go.RowKit
set_option linter.unusedVariables false
set_option linter.unusedSimpArgs false
mutual
def szV (most : Int) : VT → Int → Int
  | .mk _ _ l, n => szL most l (n + 1)
def szL (most : Int) : List VT → Int → Int
  | [], n => n
  | v :: vs, n => if n ≤ most then szL most vs (szV most v n) else n
end
theorem szV_eq (most : Int) (v : VT) (n : Int) : szV most v n = szL most v.args (n + 1) := by cases v; rw [szV]; rfl
mutual
theorem szV_le (most : Int) : ∀ (v : VT) (n : Int), 0 ≤ n → n ≤ most → n + 1 ≤ szV most v n ∧ szV most v n ≤ most + 1
  | .mk _ _ l, n, h0, h => by rw [szV]; exact szL_le most l (n + 1) (by omega) (by omega)
theorem szL_le (most : Int) : ∀ (l : List VT) (n : Int), 0 ≤ n → n ≤ most + 1 → n ≤ szL most l n ∧ szL most l n ≤ most + 1
  | [], n, h0, h => by rw [szL]; omega
  | v :: vs, n, h0, h => by
    rw [szL]
    split
    · rename_i hn
      have h1 := szV_le most v n h0 hn
      have h2 := szL_le most vs (szV most v n) (by omega) h1.2
      omega
    · omega
end
theorem szL_stop (most : Int) (l : List VT) (n : Int) (h : most < n) : szL most l n = n := by
  cases l with
  | nil => rw [szL]
  | cons v vs => rw [szL, if_neg (by omega)]
theorem szL_at (most : Int) (l : List VT) (i : Nat) (hi : i < l.length) (n : Int) (h : n ≤ most) : szL most (l.drop i) n = szL most (l.drop (i + 1)) (szV most l[i] n) := by
  rw [List.drop_eq_getElem_cons hi, szL, if_pos h]
def SmallC (c : CT) : Prop := c.name.size ≤ 40 ∧ c.fields.length ≤ 8
def SmallP (d : List DT) : Prop := d.length ≤ 10 ∧ ∀ i (h : i < d.length), d[i].name.size ≤ 40 ∧ d[i].cons.length ≤ 8 ∧ ∀ j (h' : j < d[i].cons.length), SmallC d[i].cons[j]
noncomputable def fewF (d : List DT) (v : VT) : Bool := tt (SmallP d) && decide (szV 60 v 0 ≤ 60)
end Go.Proofs.YtieaiheejhmbfaaGreatDoor.ML
/- Literals of two elements. No conditions. -/
namespace Go.Proofs.YtieaiheejhmbfaaGreatDoor.ML
open Go.RowKit
set_option linter.unusedVariables false
set_option linter.unusedSimpArgs false
theorem fill_gen (base : Nat) : ∀ (us : List Value) (p : Nat) (a : Array Value), base + p + us.length ≤ a.size → (us.zipIdx p).foldl (fun cs (x : Value × Nat) => cs.setIfInBounds (base + x.2) x.1) a = (a.toList.take (base + p) ++ us ++ a.toList.drop (base + p + us.length)).toArray
  | [], p, a, h => by simp
  | u :: us, p, a, h => by
    simp only [List.length_cons] at h
    rw [List.zipIdx_cons, List.foldl_cons, fill_gen base us (p + 1) _ (by simp; omega)]
    congr 1
    rw [Array.toList_setIfInBounds]
    have e1 : (a.toList.set (base + p) u).take (base + (p + 1)) = a.toList.take (base + p) ++ [u] := by
      rw [show base + (p + 1) = base + p + 1 by omega, take_set_succ _ _ _ (by simp; omega)]
    have e2 : (a.toList.set (base + p) u).drop (base + (p + 1) + us.length) = a.toList.drop (base + p + (us.length + 1)) := by
      rw [List.drop_set_of_lt (by omega), show base + (p + 1) + us.length = base + p + (us.length + 1) by omega]
    rw [e1, e2]
    simp
theorem fold_gen (base : Nat) (us : List Value) (a : Array Value) (h : base + us.length ≤ a.size) : us.toArray.zipIdx.foldl (fun cs (x : Value × Nat) => cs.setIfInBounds (base + x.2) x.1) a = (a.toList.take base ++ us ++ a.toList.drop (base + us.length)).toArray := by
  have := fill_gen base us 0 a (by simpa using h)
  rw [← Array.foldl_toList]
  simpa using this
theorem fill2 {z : Nat} {v u : Value} {vs us : List Value} (hv : v.cells = vs.toArray) (hu : u.cells = us.toArray) (h1 : vs.length = z) (h2 : us.length = z) (a : Array Value) (ha : a.size = 2 * z) :
    Instr.fill (fun i => some (i * z, z)) a [(0, v), (1, u)] = some (vs ++ us).toArray := by
  have e1 := fold_gen (0 * z) vs a (by omega)
  have e2 := fold_gen (1 * z) us (a.toList.take (0 * z) ++ vs ++ a.toList.drop (0 * z + vs.length)).toArray (by simp; omega)
  simp only [Instr.fill, hv, hu]
  rw [if_neg (by simp [h1]; omega), e1, if_neg (by simp [h1, h2]; omega), e2]
  congr 2
  simp only [Nat.zero_mul, Nat.zero_add, Nat.one_mul, List.take_zero, List.nil_append]
  rw [List.take_append_of_le_length (by omega), List.take_of_length_le (by omega), List.drop_eq_nil_of_le (by simp; omega)]
  simp
section
variable {P : Program} {ro : RO} {ops : Array Oper} {Q : Post} {rest : List Oper} {tm : Tm} {F : Value → Tm} {M : Mem} {H H' : Heap} {K : Tm → Mem → Heap → Prop} {gd : Option (Nat × Bool)}
variable {d : Nat} {ty : TypeId} {pos : String} {aft : Array Edge} {x y : Operand} {T : TypeId} {v u : Value}
theorem S.lit2 {E z b : Nat} {vs us : List Value} [hx : Ev tm x v] [hy : Ev tm y u] [hv : Cl v vs] [hu : Cl u us] [Ap P T E z b] [hp : Pt tm d F] (hn1 : vs.length = z) (hn2 : us.length = z) (hz24 : z ≤ 8000000)
    (h : ∀ g, K (F (.slice (some ⟨g, 0, none⟩) 2 2)) M (.blk g (.cells (vs ++ us).toArray E (0, 0)) :: H)) : AS P ro ⟨some d, .buildSlice T 2 (List.toArray [(0, x), (1, y)]), ty, pos, aft, gd⟩ tm M H K :=
  AS.val rfl fun g w hS => by
    obtain ⟨i, zv, hu', hi, hz, hs, hb, hzs, h0⟩ := Ap.parts (P := P) (T := T) (E := E) (z := z) (b := b)
    refine ⟨.slice (some ⟨w.heap.size, 0, none⟩) 2 2, w.alloc (.cells (vs ++ us).toArray E (0, 0)), M, _, ?_, .refl M, hS.alloc _, by show K (tm.set d _) M _; rw [hp.out]; exact h _⟩
    have hfill : Instr.fill (fun i => some (i * z, z)) ((Array.range (2 * z)).map (fun k => zv.cells[k % zv.cells.size]!)) [(0, v), (1, u)] = some (vs ++ us).toArray := by
      exact fill2 hv.out hu.out hn1 hn2 _ (by simp)
    simp only [execOp]
    refine run_v ?_
    have h24 : ¬ (2 * z > 2 ^ 24) := by omega
    have hne : ¬ (2 * z = 0) := by omega
    simp only [Instr.buildSlice, Sem.run_bind, run_underlying hu', Result.andThen_ok, sizeOf, run_typeInfo hi, Sem.run_pure, hs, h24, if_false, hne, zeroValue, hz]
    have hp : (Array.map (fun x : Nat × Operand => (x.fst, ev tm x.snd)) (List.toArray [(0, x), (1, y)])).toList = [(0, v), (1, u)] := by simp [hx.out, hy.out]
    rw [hp, hfill]
    rfl
end
theorem Mb.cel {M : Mem} {b : Nat} {cs : List Value} (h : Mb M b cs) (i : Nat) (v : Value) (hi : cs[i]? = some v) : Mk M b i v := ⟨by obtain ⟨T, fz, e⟩ := h.out; unfold Mc; rw [e]; simpa using hi⟩
theorem RdS.two {α : Type} {z b : Nat} {R : Nat → Nat → α → Prop} {x y : α} (h0 : R b (0 + 0 * z) x) (h1 : R b (0 + 1 * z) y) : RdS z R (some ⟨b, 0, none⟩) 2 [x, y] :=
  ⟨by simp, by simp, b, 0, fun _ => rfl, fun i hi => by
    match i, hi with
    | 0, _ => exact h0
    | 1, _ => exact h1⟩
abbrev sList : ByteArray := ⟨#[76, 105, 115, 116]⟩
abbrev sNil : ByteArray := ⟨#[78, 105, 108]⟩
abbrev sCons : ByteArray := ⟨#[67, 111, 110, 115]⟩
def listsD : List DT := [⟨sBool, [⟨sFalse, []⟩, ⟨sTrue, []⟩]⟩, ⟨sList, [⟨sNil, []⟩, ⟨sCons, [0, 2]⟩]⟩]
theorem lists_rd {M : Mem} {g10 g8 g6 g3 : Nat} (h10 : Mb M g10 [.string sBool, .slice (some ⟨g3, 0, none⟩) 2 2, .string sList, .slice (some ⟨g8, 0, none⟩) 2 2]) (h8 : Mb M g8 [.string sNil, .slice none 0 0, .string sCons, .slice (some ⟨g6, 0, none⟩) 2 2])
    (h6 : Mb M g6 [.int .i64 0, .int .i64 2]) (h3 : Mb M g3 [.string sFalse, .slice none 0 0, .string sTrue, .slice none 0 0]) : RdS 2 (RdD M) (some ⟨g10, 0, none⟩) 2 listsD :=
  RdS.two ⟨h10.cel 0 _ rfl, by decide, _, _, h10.cel 1 _ rfl, RdS.two ⟨h3.cel 0 _ rfl, by decide, _, _, h3.cel 1 _ rfl, RdS.nil⟩ ⟨h3.cel 2 _ rfl, by decide, _, _, h3.cel 3 _ rfl, RdS.nil⟩⟩
    ⟨h10.cel 2 _ rfl, by decide, _, _, h10.cel 3 _ rfl, RdS.two ⟨h8.cel 0 _ rfl, by decide, _, _, h8.cel 1 _ rfl, RdS.nil⟩ ⟨h8.cel 2 _ rfl, by decide, _, _, h8.cel 3 _ rfl, RdS.two (h6.cel 0 _ rfl) (h6.cel 1 _ rfl)⟩⟩
theorem nameF_0 {s : ByteArray} (i : Nat) (h : i = 0) (hn : ¬ (65 ≤ byt s i ∧ byt s i ≤ 90)) : Value.bool false = Value.bool (nameF s) := by
  subst h; exact nameF_f fun hh => hn ⟨hh.2.2.1, hh.2.2.2⟩
theorem cn_bd : ∀ {d : List DT}, (∀ x ∈ d, x.cons.length ≤ 16) → (cnL d).length ≤ d.length * 16
  | [], _ => by simp [cnL]
  | x :: d, h => by
    have h1 := cn_bd (d := d) fun y hy => h y (List.mem_cons_of_mem _ hy)
    have h2 := h x (List.mem_cons_self ..)
    simp only [cnL, List.flatMap_cons, List.length_append, List.length_map, List.length_cons] at *
    omega
end Go.Proofs.YtieaiheejhmbfaaGreatDoor.ML
