/- From the contracts to the rows: the world's own memory; what the arguments read as. No conditions. -/
import Derived.Test.YtieaiheejhmbfaaGreatDoorPk16
import Derived.Deep.Slices
import Derived.SizedLaws
namespace Go.Proofs.YtieaiheejhmbfaaGreatDoor.ML
open Go.RowKit
set_option linter.unusedVariables false
set_option linter.unusedSimpArgs false
def memW (W : World) : Mem := fun b => W.heap[b]?
theorem St.start (W : World) : St ⟨W, []⟩ (memW W) [] W := ⟨rfl, rfl, rfl, Nat.le_refl _, fun b o h => h, fun e he => (by simp at he), (by simp [fps]), fun b hb => (by simp [fps] at hb), .nil⟩
/-- A contract at the world's own memory is what a row wants. -/
theorem AC.row {P : Program} {f : Nat} {av : List Value} {W : World} {v : Value} (h : AC P f av (memW W) [] fun r _ _ => r = v) : Calls P f av.toArray W fun e W' => e = .returned v ∧ Below W.heap.size W W' := by
  have e : fw none = Fence.wide := rfl
  have h1 := h _ _ (St.start W)
  rw [e] at h1
  refine (callsIn_wide.1 h1).mono fun x W' hx => ?_
  obtain ⟨r, M', H', rfl, hM, hS, rfl⟩ := hx
  refine ⟨rfl, hS.os, hS.tape, hS.output, hS.size, fun k hk => ?_⟩
  have hk' : memW W k = some W.heap[k] := Array.getElem?_eq_getElem hk
  rw [hS.mem k _ (hM k _ hk')]
  exact hk'.symm
theorem var_at {P : Program} {W : World} {name : String} {g : Nat} {cs : Array Value} (hn : P.globalNamed name = some g) (h : W.var? P name = some cs) : ∃ T fz, memW W g = some (.cells cs T fz) := by
  unfold World.var? at h
  rw [hn, Option.bind_some] at h
  unfold memW
  split at h
  · rename_i cs' T fz he
    cases h
    exact ⟨T, fz, he⟩
  · cases h
/-! ### What the arguments read as -/
section
variable {H : Type} {enc : TypeId × Value → H} {P : Program} {W : World} {spare : Nat → Bool} {held : Bool}
abbrev Light (P : Program) (t : TypeId) (d : DataW H) : Prop := ∀ m ∈ d.weights P t, m ≤ reachBytes
theorem mk_of {b o z : Nat} {cs : List Value} (h : W.cells? 0 ⟨b, o, none⟩ z = some cs) {j : Nat} {v : Value} (hj : cs[j]? = some v) : Mk (memW W) b (o + j) v := by
  obtain ⟨_, hl, hat⟩ := World.cells?_some h
  have hjz : j < z := by rw [← hl]; exact (List.getElem?_eq_some_iff.1 hj).1
  have hc := hat j hjz
  rw [hj, add_addr] at hc
  refine ⟨?_⟩
  unfold World.cell? at hc
  unfold Mc memW
  dsimp only at hc
  cases hh : W.heap[b]? with
  | none => rw [hh] at hc; cases hc
  | some x =>
    rw [hh] at hc
    cases x with
    | cells c T fz => simpa using hc
    | _ => cases hc
theorem spot_of {a : Addr} {z : Nat} {cs : List Value} (h : W.cells? 0 a z = some cs) (hz : 0 < z) : a.spot = none := by
  obtain ⟨_, hl, hat⟩ := World.cells?_some h
  have hc := hat 0 hz
  have e : a.add 0 = a := by simp [Addr.add]
  rw [e, List.getElem?_eq_getElem (by omega)] at hc
  unfold World.cell? at hc
  split at hc
  · split at hc
    · cases hc
    · rename_i hs; simpa using hs
  · cases hc
theorem list_of {α : Type} (X : Nat → α → Prop) : ∀ n : Nat, (∀ i, i < n → ∃ a, X i a) → ∃ l : List α, l.length = n ∧ ∀ i (h : i < l.length), X i l[i]
  | 0, _ => ⟨[], rfl, fun i h => absurd h (by simp)⟩
  | n + 1, h => by
    obtain ⟨l, h1, h2⟩ := list_of X n (fun i hi => h i (by omega))
    obtain ⟨a, ha⟩ := h n (by omega)
    refine ⟨l ++ [a], by simp [h1], fun i hi => ?_⟩
    by_cases hlt : i < l.length
    · rw [List.getElem_append_left hlt]; exact h2 i hlt
    · have e : i = n := by simp at hi; omega
      subst e
      rw [List.getElem_append_right (by omega)]
      simpa using ha
theorem open_list {α : Type} {t e : TypeId} {z s : Nat} (ht : P.underlying t = some (.slice e)) (hz : P.cellsOf e = z) (hz0 : 0 < z) (hb : P.bytesOf e = s) (hs0 : 0 < s) (R : Nat → Nat → α → Prop) (Q : α → Prop) {fuel : Nat} {cs : List Value} {x : DataW H × List MemPlace}
    (h : DataW.trod enc P W 0 spare held fuel t cs = some x) (hw : Light P t x.1)
    (hel : ∀ n, n < fuel → ∀ cs' y, DataW.trod enc P W 0 spare held n e cs' = some y → Light P e y.1 → ∃ a, Q a ∧ ∀ b o, W.cells? 0 ⟨b, o, none⟩ z = some cs' → R b o a) :
    ∃ A c l, cs = [.slice A l.length c] ∧ RdS z R A c l ∧ ∀ a ∈ l, Q a := by
  rcases DataW.trod_slice ht h with ⟨rfl, _⟩ | ⟨a, len, cap, elems, rest, n, rfl, rfl, rfl, _, hl, _, hlen, hat, _, _⟩
  · exact ⟨none, 0, [], rfl, .nil, fun a ha => by simp at ha⟩
  rw [hz] at hat
  have hsz : len ≤ 140737488355328 := by
    have h1 := hw ((elems.map (·.1)).length * s + (rest.map (·.1)).length * s) (by
      simp only [DataW.weights, ht, hb, List.mem_cons]
      left; rw [Nat.add_mul])
    simp only [List.length_map, hlen] at h1
    have h2 : len * 1 ≤ len * s := Nat.mul_le_mul_left _ hs0
    have h3 : reachBytes = 140737488351232 := by decide
    omega
  have hlight : ∀ i (hi : i < elems.length), Light P e (elems[i]).1 := fun i hi m hm => by
    refine hw m ?_
    simp only [DataW.weights, ht, List.mem_cons, List.mem_append]
    right; left
    have key : ∀ (l : List (DataW H × List MemPlace)) (y : DataW H × List MemPlace), y ∈ l → ∀ m ∈ y.1.weights P e, m ∈ DataW.weightsAll P e (l.map (·.1)) := by
      intro l
      induction l with
      | nil => intro y hy; simp at hy
      | cons a l ih =>
        intro y hy m hm
        simp only [List.map_cons, DataW.weightsAll, List.mem_append]
        rcases List.mem_cons.1 hy with rfl | hy
        · exact .inl hm
        · exact .inr (ih y hy m hm)
    exact key _ _ (List.getElem_mem hi) m hm
  have hsp : len ≠ 0 → a.spot = none := fun h0 => by
    have h1 := hat 0 (by omega)
    rw [List.getElem?_eq_getElem (by omega)] at h1
    obtain ⟨cs', h2, _⟩ := Option.bind_eq_some_iff.1 h1
    rw [Nat.zero_mul, show a.add 0 = a by simp [Addr.add]] at h2
    exact spot_of h2 hz0
  obtain ⟨l, h1, h2⟩ := list_of (fun i (v : α) => Q v ∧ (a.spot = none → R a.block (a.off + i * z) v)) len fun i hi => by
    have h1 := hat i hi
    rw [List.getElem?_eq_getElem (by omega)] at h1
    obtain ⟨cs', h2, h3⟩ := Option.bind_eq_some_iff.1 h1
    obtain ⟨v, hv, hr⟩ := hel n (by omega) cs' _ h3 (hlight i (by omega))
    refine ⟨v, hv, fun hn => hr _ _ ?_⟩
    obtain ⟨b, o, sp⟩ := a
    dsimp only at hn
    subst hn
    rw [add_addr] at h2
    exact h2
  subst h1
  refine ⟨some a, cap, l, rfl, ⟨hl, hsz, a.block, a.off, fun hne => ?_, fun i hi => (h2 i hi).2 (hsp ?_)⟩, fun v hv => ?_⟩
  · have := hsp (by intro e; exact hne (List.eq_nil_of_length_eq_zero e))
    obtain ⟨b, o, sp⟩ := a
    dsimp only at this
    subst this
    rfl
  · omega
  · obtain ⟨i, hi, rfl⟩ := List.getElem_of_mem hv
    exact (h2 i hi).1
theorem open_fld {t : TypeId} {fs : Array Field} (ht : P.underlying t = some (.struct fs)) {fuel : Nat} {cs : List Value} {x : DataW H × List MemPlace} (h : DataW.trod enc P W 0 spare held fuel t cs = some x) (hw : Light P t x.1) :
    ∃ n, fuel = n + 1 ∧ cs.length = P.cellsOf t ∧ ∀ (i : Nat) (f : Field), fs[i]? = some f → ∃ y, DataW.trod enc P W 0 spare held n f.type ((cs.drop f.offset).take (P.cellsOf f.type)) = some y ∧ Light P f.type y.1 := by
  obtain ⟨xs, n, rfl, rfl, hlen, hxl, hf⟩ := DataW.trod_struct ht h
  refine ⟨n, rfl, hlen, fun i f hi => ?_⟩
  have hlt : i < xs.length := by rw [hxl]; exact (Array.getElem?_eq_some_iff.1 hi).1
  refine ⟨xs[i], (hf i f hi).trans (List.getElem?_eq_getElem hlt), fun m hm => hw m ?_⟩
  simp only [DataW.weights, ht]
  exact DataW.weights_mem_each (j := i) (t := f.type) (d := (xs[i]).1) (by simp [hi]) (by simp [hlt]) m hm
end
section
variable {H : Type} {enc : TypeId × Value → H} {W : World} {spare : Nat → Bool} {held : Bool}
theorem wf_rng {n : Int} (h : (Lit.int .i64 n).wf = true) : -9223372036854775808 ≤ n ∧ n ≤ 9223372036854775807 := by
  unfold Lit.wf at h
  rw [Bool.and_eq_true, decide_eq_true_eq, decide_eq_true_eq] at h
  rw [show IntKind.min .i64 = -9223372036854775808 from by decide, show IntKind.max .i64 = 9223372036854775807 from by decide] at h
  exact h
theorem z23 : Tryz.prog.cellsOf 23 = 1 := by kernel_rfl
theorem z59 : Tryz.prog.cellsOf 59 = 2 := by kernel_rfl
theorem z62 : Tryz.prog.cellsOf 62 = 2 := by kernel_rfl
theorem z26 : Tryz.prog.cellsOf 26 = 3 := by kernel_rfl
theorem z9 : Tryz.prog.cellsOf 9 = 1 := by kernel_rfl
theorem z2 : Tryz.prog.cellsOf 2 = 1 := by kernel_rfl
theorem z3 : Tryz.prog.cellsOf 3 = 1 := by kernel_rfl
theorem z24 : Tryz.prog.cellsOf 24 = 1 := by kernel_rfl
theorem z57 : Tryz.prog.cellsOf 57 = 1 := by kernel_rfl
theorem z60 : Tryz.prog.cellsOf 60 = 1 := by kernel_rfl
theorem s23 : Tryz.prog.bytesOf 23 = 8 := by kernel_rfl
theorem s59 : Tryz.prog.bytesOf 59 = 40 := by kernel_rfl
theorem s62 : Tryz.prog.bytesOf 62 = 40 := by kernel_rfl
theorem s26 : Tryz.prog.bytesOf 26 = 40 := by kernel_rfl
theorem open_i {t : TypeId} (ht : Tryz.prog.underlying t = some (.int .i64)) {fuel : Nat} {cs : List Value} {x : DataW H × List MemPlace} (h : DataW.trod enc Tryz.prog W 0 spare held fuel t cs = some x) : ∃ n, cs = [.int .i64 n] ∧ -9223372036854775808 ≤ n ∧ n ≤ 9223372036854775807 := by
  obtain ⟨n, rfl, _, hw⟩ := DataW.trod_int ht h
  exact ⟨n, rfl, wf_rng hw⟩
theorem open_str {fuel : Nat} {cs : List Value} {x : DataW H × List MemPlace} (h : DataW.trod enc Tryz.prog W 0 spare held fuel 9 cs = some x) (hw : Light Tryz.prog 9 x.1) : ∃ s : ByteArray, cs = [.string s] ∧ s.size ≤ 140737488355328 := by
  obtain ⟨s, rfl, rfl, _⟩ := DataW.trod_string Tryz.underlying9 h
  have h1 := hw s.data.toList.length (by unfold DataW.weights; exact List.mem_singleton.2 rfl)
  have h3 : reachBytes = 140737488351232 := by decide
  have h4 : s.data.toList.length = s.size := Array.length_toList
  exact ⟨s, rfl, by omega⟩
theorem open_con {fuel : Nat} {cs : List Value} {x : DataW H × List MemPlace} (h : DataW.trod enc Tryz.prog W 0 spare held fuel 59 cs = some x) (hw : Light Tryz.prog 59 x.1) : ∃ a : CT, True ∧ ∀ b o, W.cells? 0 ⟨b, o, none⟩ 2 = some cs → RdC (memW W) b o a := by
  obtain ⟨n, rfl, hl, hf⟩ := open_fld Tryz.underlying59 h hw
  rw [z59] at hl
  obtain ⟨v0, v1, rfl⟩ : ∃ v0 v1, cs = [v0, v1] := by
    rcases cs with _ | ⟨v0, _ | ⟨v1, _ | ⟨v2, cs⟩⟩⟩ <;> simp at hl
    exact ⟨v0, v1, rfl⟩
  obtain ⟨y0, h0, w0⟩ := hf 0 _ rfl
  obtain ⟨y1, h1, w1⟩ := hf 1 _ rfl
  change DataW.trod _ _ _ _ _ _ _ _ (([v0, v1].drop 0).take (Tryz.prog.cellsOf 9)) = _ at h0
  change DataW.trod _ _ _ _ _ _ _ _ (([v0, v1].drop 1).take (Tryz.prog.cellsOf 57)) = _ at h1
  rw [z9] at h0
  rw [z57] at h1
  simp only [List.drop_zero, List.drop_succ_cons, List.take_succ_cons, List.take_zero] at h0 h1
  obtain ⟨s, hs, hsz⟩ := open_str h0 w0
  obtain ⟨A, c, l, hc, hr, _⟩ := open_list Tryz.underlying57 z23 (by decide) s23 (by decide) (RdI (memW W)) (fun _ => True) h1 w1 (fun m _ cs' y hy _ => by
    obtain ⟨k, rfl, _⟩ := open_i Tryz.underlying23 hy
    exact ⟨k, trivial, fun b o hc => mk_of (j := 0) hc rfl⟩)
  simp only [List.cons.injEq, and_true] at hs hc
  subst hs hc
  exact ⟨⟨s, l⟩, trivial, fun b o hc => ⟨mk_of (j := 0) hc rfl, hsz, A, c, mk_of (j := 1) hc rfl, hr⟩⟩
theorem open_dat {fuel : Nat} {cs : List Value} {x : DataW H × List MemPlace} (h : DataW.trod enc Tryz.prog W 0 spare held fuel 62 cs = some x) (hw : Light Tryz.prog 62 x.1) : ∃ a : DT, True ∧ ∀ b o, W.cells? 0 ⟨b, o, none⟩ 2 = some cs → RdD (memW W) b o a := by
  obtain ⟨n, rfl, hl, hf⟩ := open_fld Tryz.underlying62 h hw
  rw [z62] at hl
  obtain ⟨v0, v1, rfl⟩ : ∃ v0 v1, cs = [v0, v1] := by
    rcases cs with _ | ⟨v0, _ | ⟨v1, _ | ⟨v2, cs⟩⟩⟩ <;> simp at hl
    exact ⟨v0, v1, rfl⟩
  obtain ⟨y0, h0, w0⟩ := hf 0 _ rfl
  obtain ⟨y1, h1, w1⟩ := hf 1 _ rfl
  change DataW.trod _ _ _ _ _ _ _ _ (([v0, v1].drop 0).take (Tryz.prog.cellsOf 9)) = _ at h0
  change DataW.trod _ _ _ _ _ _ _ _ (([v0, v1].drop 1).take (Tryz.prog.cellsOf 60)) = _ at h1
  rw [z9] at h0
  rw [z60] at h1
  simp only [List.drop_zero, List.drop_succ_cons, List.take_succ_cons, List.take_zero] at h0 h1
  obtain ⟨s, hs, hsz⟩ := open_str h0 w0
  obtain ⟨A, c, l, hc, hr, _⟩ := open_list Tryz.underlying60 z59 (by decide) s59 (by decide) (RdC (memW W)) (fun _ => True) h1 w1 (fun m _ cs' y hy hwy => open_con hy hwy)
  simp only [List.cons.injEq, and_true] at hs hc
  subst hs hc
  exact ⟨⟨s, l⟩, trivial, fun b o hc => ⟨mk_of (j := 0) hc rfl, hsz, A, c, mk_of (j := 1) hc rfl, hr⟩⟩
/-- A table of data types. -/
theorem open_table {v : Value} {d : DataW H} {p : List MemPlace} (h : DataW.Trod enc Tryz.prog W 0 spare held 22 v d p) (hw : Light Tryz.prog 22 d) (hv : ∃ a n c, v = .slice a n c) : ∃ A c l, v = .slice A l.length c ∧ RdS 2 (RdD (memW W)) A c l := by
  obtain ⟨fuel, h⟩ := h
  obtain ⟨A, c, l, hc, hr, _⟩ := open_list Tryz.underlying22 z62 (by decide) s62 (by decide) (RdD (memW W)) (fun _ => True) h hw (fun m _ cs' y hy hwy => open_dat hy hwy)
  refine ⟨A, c, l, ?_, hr⟩
  obtain ⟨a, n, c', rfl⟩ := hv
  simpa [Value.cells] using hc
theorem open_val0 : ∀ (fuel : Nat) (cs : List Value) (x : DataW H × List MemPlace), DataW.trod enc Tryz.prog W 0 spare held fuel 26 cs = some x → Light Tryz.prog 26 x.1 →
    ∃ (v : VT) (A : Option Addr) (c : Nat), cs = [.int .i64 v.num, .int .i64 v.con, .slice A v.args.length c] ∧ VV (memW W) A c v ∧ RgV v := by
  intro fuel
  induction fuel using Nat.strongRecOn with
  | ind fuel ih =>
    intro cs x h hw
    obtain ⟨n, rfl, hl, hf⟩ := open_fld Tryz.underlying26 h hw
    rw [z26] at hl
    obtain ⟨v0, v1, v2, rfl⟩ : ∃ v0 v1 v2, cs = [v0, v1, v2] := by
      rcases cs with _ | ⟨v0, _ | ⟨v1, _ | ⟨v2, _ | ⟨v3, cs⟩⟩⟩⟩ <;> simp at hl
      exact ⟨v0, v1, v2, rfl⟩
    obtain ⟨y0, h0, w0⟩ := hf 0 _ rfl
    obtain ⟨y1, h1, w1⟩ := hf 1 _ rfl
    obtain ⟨y2, h2, w2⟩ := hf 2 _ rfl
    change DataW.trod _ _ _ _ _ _ _ _ (([v0, v1, v2].drop 0).take (Tryz.prog.cellsOf 2)) = _ at h0
    change DataW.trod _ _ _ _ _ _ _ _ (([v0, v1, v2].drop 1).take (Tryz.prog.cellsOf 3)) = _ at h1
    change DataW.trod _ _ _ _ _ _ _ _ (([v0, v1, v2].drop 2).take (Tryz.prog.cellsOf 24)) = _ at h2
    rw [z2] at h0
    rw [z3] at h1
    rw [z24] at h2
    simp only [List.drop_zero, List.drop_succ_cons, List.take_succ_cons, List.take_zero] at h0 h1 h2
    obtain ⟨num, hn, hn0, hn1⟩ := open_i Tryz.underlying2 h0
    obtain ⟨con, hc, _⟩ := open_i Tryz.underlying3 h1
    obtain ⟨A, c, l, hs, hr, hq⟩ := open_list Tryz.underlying24 z26 (by decide) s26 (by decide) (RdV (memW W)) RgV h2 w2 (fun m hm cs' y hy hwy => by
      obtain ⟨v, A, c, rfl, hv, hg⟩ := ih m (by omega) cs' y hy hwy
      exact ⟨v, hg, fun b o hc => RdV.of (mk_of (j := 0) hc rfl) (mk_of (j := 1) hc rfl) (mk_of (j := 2) hc rfl) hv⟩)
    simp only [List.cons.injEq, and_true] at hn hc hs
    subst hn hc hs
    exact ⟨.mk num con l, A, c, rfl, hr, .mk hn0 hn1 hq⟩
/-- A value. -/
theorem open_value {v : Value} {d : DataW H} {p : List MemPlace} (h : DataW.Trod enc Tryz.prog W 0 spare held 26 v d p) (hw : Light Tryz.prog 26 d) (hv : ∃ cs, v = .agg cs) :
    ∃ (x : VT) (A : Option Addr) (c : Nat), v = .agg #[.int .i64 x.num, .int .i64 x.con, .slice A x.args.length c] ∧ VV (memW W) A c x ∧ RgV x := by
  obtain ⟨fuel, h⟩ := h
  obtain ⟨x, A, c, hc, hr, hg⟩ := open_val0 fuel _ _ h hw
  obtain ⟨cs, rfl⟩ := hv
  refine ⟨x, A, c, ?_, hr, hg⟩
  simp only [Value.cells] at hc
  rw [← hc]
end
end Go.Proofs.YtieaiheejhmbfaaGreatDoor.ML
