/- Visits told by a relation: callbacks whose own things move. No conditions. -/
import Derived.Test.YtieaiheejhmbfaaGreatDoorPk14
import Derived.Test.YtieaiheejhmbfaaGreatDoorPk34
import Derived.Test.YtieaiheejhmbfaaGreatDoorPk13
namespace Go.Proofs.YtieaiheejhmbfaaGreatDoor.ML
open Go.RowKit
set_option linter.unusedVariables false
set_option linter.unusedSimpArgs false
/-- What the cells of one memory say, the other says too. -/
def Mem.leC (M N : Mem) : Prop := ∀ b cs T fz, M b = some (.cells cs T fz) → N b = some (.cells cs T fz)
theorem Mem.le.toC {M N : Mem} (h : M.le N) : M.leC N := fun b cs T fz e => h b _ e
theorem Mc.monoC {M N : Mem} (h : M.leC N) {b off : Nat} {v : Value} (hc : Mc M b off = some v) : Mc N b off = some v := by
  unfold Mc at hc ⊢
  cases hm : M b with
  | none => rw [hm] at hc; cases hc
  | some o =>
    rw [hm] at hc
    cases o with
    | cells cs T fz => rw [h b cs T fz hm]; exact hc
    | _ => cases hc
theorem RdV.monoC {M M' : Mem} (hM : M.leC M') {b o : Nat} {x : VT} (h : RdV M b o x) : RdV M' b o x := by
  induction h with
  | mk h0 h1 h2 hc hb hA _ ih => exact .mk ⟨Mc.monoC hM h0.out⟩ ⟨Mc.monoC hM h1.out⟩ ⟨Mc.monoC hM h2.out⟩ hc hb hA ih
theorem FlV.monoC {M M' : Mem} (hM : M.leC M') : ∀ {l : List VT} {cs : List Value}, FlV M cs l → FlV M' cs l
  | [], _, h => h
  | v :: l, _, h => by obtain ⟨A, c, cs', h1, h2, h3⟩ := h; exact ⟨A, c, cs', h1, h2.imp fun _ _ _ h => h.monoC hM, h3.monoC hM⟩
section
variable {P : Program} {ro : RO} {ops : Array Oper} {Q : Post} {rest : List Oper} {tm : Tm} {M : Mem} {H H' : Heap}
/-- What a callback does not know of stays as it is; what it gives back may lean on the cells that stay. -/
theorem AV.frameC {fv : Value} {av : List Value} {b : Nat} {r : Loop} {R : Value → Mem → Heap → Prop} (hR : ∀ v M1 M2 H', Mem.leC M1 M2 → R v M1 H' → R v M2 H') (h : ∀ M' : Mem, LeT M M' → AV P fv av M' H R) : AV P fv av M (.blk b (.loop r) :: H) (fun v M' H' => ∃ H2, H' = .blk b (.loop r) :: H2 ∧ R v M' H2) :=
  fun ro x args ts d ty pos aft gd tm K hx ha hK g w hS => by
    have hb : M b = none := hS.apart b (by simp [fps, Ent.fp])
    have hkp := hS.keep
    have := h _ ⟨hkp.1⟩ ro x args ts d ty pos aft gd tm (fun tm1 M1 H1 => ∃ v, tm1 = putL tm d v ∧ R v M1 H1) hx ha (fun v M1 H1 _ hR => ⟨v, rfl, hR⟩) g w hkp.2
    refine opIn_mono (fun a w' hh => ?_) (fun _ _ _ h => h) this
    obtain ⟨tm', M1, H1, rfl, hM, hS1, v, rfl, hR1⟩ := hh
    have hb1 : M1 b = some (.loop r) := hM _ _ (Mem.add_self ..)
    obtain ⟨M2, hle, hC, hS2⟩ : ∃ M2 : Mem, M.le M2 ∧ Mem.leC M1 M2 ∧ St g M2 (.blk b (.loop r) :: H1) w' := by
      refine ⟨fun k => if k = b then none else M1 k, fun k o' hk => ?_, fun k cs T fz hk => ?_, hS1.os, hS1.tape, hS1.output, hS1.size, fun k o' hk => ?_, fun e he => ?_, ?_, fun k hk => ?_, ⟨hS.dsok.1, fun d hd => ?_⟩⟩
      · have hne : k ≠ b := by
          intro e
          subst e
          rw [hb] at hk
          cases hk
        show (if k = b then none else M1 k) = some o'
        rw [if_neg hne]
        exact hM _ _ (by unfold Mem.add; rw [if_neg hne]; exact hk)
      · have hne : k ≠ b := by
          intro e
          subst e
          rw [hb1] at hk
          cases hk
        show (if k = b then none else M1 k) = _
        rw [if_neg hne]
        exact hk
      · by_cases e : k = b
        · simp [e] at hk
        · simp only [e, if_false] at hk; exact hS1.mem _ _ hk
      · rcases List.mem_cons.1 he with rfl | he
        · exact hS1.mem _ _ hb1
        · exact hS1.own e he
      · rw [fps_cons]
        simp only [Ent.fp, List.singleton_append, List.nodup_cons]
        exact ⟨fun hm => (by have := hS1.apart b hm; rw [hb1] at this; cases this), hS1.nodup⟩
      · show (if k = b then none else M1 k) = none
        by_cases e : k = b
        · rw [if_pos e]
        · rw [if_neg e]
          rw [fps_cons] at hk
          rcases List.mem_append.1 hk with hk | hk
          · simp [Ent.fp] at hk; exact absurd hk e
          · exact hS1.apart k hk
      · obtain ⟨D, e, h1, h2⟩ := hS.dsok.2 d hd
        have hne : D ≠ b := by
          intro e
          subst e
          rw [hb] at h2
          cases h2
        refine ⟨D, e, h1, ?_⟩
        show (if D = b then none else M1 D) = _
        rw [if_neg hne]
        exact hM _ _ (by unfold Mem.add; rw [if_neg hne]; exact h2)
    exact ⟨_, M2, _, rfl, hle, hS2, hK v M2 _ hle ⟨_, rfl, hR _ _ _ _ hC hR1⟩⟩
def bodyPMc (P : Program) (fn : Func) (R : Value → Mem → Heap → Prop) : Post
  | .normal, tm, M, H | .ret, tm, M, H => ∃ v, (∀ M', Res P fn tm M' H v) ∧ ∃ H3, List.Sublist H3 H ∧ ∀ M', Mem.leC M M' → R v M' H3
  | _, _, _, _ => False
theorem finMc {fn : Func} {R : Value → Mem → Heap → Prop} {v : Value} (hr : ∀ M', Res P fn tm M' H v) (h : ∃ H3, List.Sublist H3 H ∧ ∀ M', Mem.leC M M' → R v M' H3) : bodyPMc P fn R .ret tm M H := ⟨v, hr, h⟩
theorem fin0Mc {fn : Func} {R : Value → Mem → Heap → Prop} {v : Value} (hr : ∀ M', Res P fn tm M' H v) (h : ∃ H3, List.Sublist H3 H ∧ ∀ M', Mem.leC M M' → R v M' H3) : bodyPMc P fn R .normal tm M H := ⟨v, hr, h⟩
open Classical in
/-- A function whose body holds ranges over functions; what it gives back may lean on the cells that stay. -/
theorem AC.ofMc {f : Nat} {fn : Func} {c : Code} {av : List Value} {n : Nat} {R : Value → Mem → Heap → Prop} (hf : P.funcs[f]? = some fn) (hb : fn.body = some c) (hn : fn.ntmps - av.length = n)
    (h : AW P ⟨none, false⟩ c (bodyPMc P fn R) (av ++ List.replicate n undef) M H) : AC P f av M H R := fun g w hS => by
  refine callsIn_of_wp_marks hf hb trivial ?_ rfl
  have ha : ({ tmps := av.toArray ++ Array.replicate (fn.ntmps - av.toArray.size) undef, defers := [] } : Act) = act [] (av ++ List.replicate n undef) := by
    simp [act, hn]
  rw [ha]
  refine wpIn_mono (h ⟨w, []⟩ w hS.fresh) fun e a w' hl => ?_
  obtain ⟨ds, tm', M', H', hfx, rfl, hM, hS', hq⟩ := hl
  have fin : (∃ v, (∀ M', Res P fn tm' M' H' v) ∧ ∃ H3, List.Sublist H3 H' ∧ ∀ M2, Mem.leC M' M2 → R v M2 H3) → LeavesInM (fw none) 0 P fn (act ds tm').tmps (fun e w' => ∃ v M' H', e = .returned v ∧ M.le M' ∧ St g M' H' w' ∧ R v M' H') (act ds tm').defers .returning w' := by
    rintro ⟨v, hr, H3, hs, hR⟩
    have hdk := hS'.dsok
    obtain ⟨w2, h1, h2, h3, h4, h5, h6⟩ := leavesM (P := P) (F := fw none) (n := 0) (fn := fn) (tmps := (act ds tm').tmps) (R := fun e w' => ∃ v M' H', e = .returned v ∧ M.le M' ∧ St g M' H' w' ∧ R v M' H') ds w' hdk.1 (fun d hd => by
      obtain ⟨D, e, _, hm⟩ := hdk.2 d hd
      exact ⟨D, e, hS'.mem _ _ hm⟩)
    refine h6 ?_
    have hmark : ∀ k, markD k ∈ ds → M' k = some (.deferred (some [])) ∧ w.heap.size ≤ k := fun k hk => by
      obtain ⟨D, e, h7, h8⟩ := hdk.2 _ hk
      cases e; exact ⟨h8, h7⟩
    obtain ⟨M2, hM2⟩ : ∃ M2 : Mem, M2 = fun k => if markD k ∈ ds then none else M' k := ⟨_, rfl⟩
    have hle : M.le M2 := fun b o hb => by
      rw [hM2]
      show (if markD b ∈ ds then none else M' b) = some o
      rw [if_neg]
      · exact hM b o hb
      · intro hm; have := hS.mlt hb; have := (hmark b hm).2; omega
    have hlc : Mem.leC M' M2 := fun b cs T fz hb => by
      rw [hM2]
      show (if markD b ∈ ds then none else M' b) = _
      rw [if_neg]
      · exact hb
      · intro hm; have := (hmark b hm).1; rw [hb] at this; cases this
    have hS2 : St ⟨w, []⟩ M2 H' w2 := by
      refine ⟨h1.trans hS'.os, h2.trans hS'.tape, h3.trans hS'.output, by rw [h4]; exact hS'.size, fun b o hb => ?_, fun e he => Ent.ok_of (hS'.own e he) fun b hb => h5 b fun hm => ?_, hS'.nodup, fun b hb => ?_, .nil⟩
      · rw [hM2] at hb
        by_cases hm : markD b ∈ ds
        · simp [hm] at hb
        · simp only [hm, if_false] at hb; rw [h5 b hm]; exact hS'.mem b o hb
      · have := hS'.apart b (List.mem_flatMap.2 ⟨e, he, hb⟩)
        rw [(hmark b hm).1] at this; cases this
      · rw [hM2]
        by_cases hm : markD b ∈ ds
        · simp [hm]
        · simp only [hm, if_false]; exact hS'.apart b hb
    exact ⟨v, hr M2 _ w2 hS2, v, M2, H3, rfl, hle, (hS.onto hS2 hle).sub hs, hR M2 hlc⟩
  cases e with
  | normal => exact fin hq
  | ret => exact fin hq
  | _ => exact hq.elim
end
/-! ### Visits -/
def sr {σ α : Type} (f : σ → α → σ → Bool → Prop) : σ → List α → σ → Bool → Prop
  | s, [], s', b => s' = s ∧ b = true
  | s, v :: l, s', b => (∃ s1, f s v s1 true ∧ sr f s1 l s' b) ∨ (b = false ∧ f s v s' false)
section
variable {σ α β : Type} {f : σ → α → σ → Bool → Prop} {s s1 s' : σ} {b : Bool}
theorem sr_nil : sr f s [] s true := ⟨rfl, rfl⟩
theorem sr_on {v : α} {l : List α} (h : f s v s1 true) (h2 : sr f s1 l s' b) : sr f s (v :: l) s' b := .inl ⟨s1, h, h2⟩
theorem sr_off {v : α} {l : List α} (h : f s v s' false) : sr f s (v :: l) s' false := .inr ⟨rfl, h⟩
theorem sr_one {v : α} (h : f s v s' b) : sr f s [v] s' b := by cases b; exact sr_off h; exact sr_on h sr_nil
theorem sr_app : ∀ (l l' : List α) (s s' : σ) (b : Bool), sr f s (l ++ l') s' b ↔ (∃ s1, sr f s l s1 true ∧ sr f s1 l' s' b) ∨ (b = false ∧ sr f s l s' false)
  | [], l', s, s', b => by
    constructor
    · intro h; exact .inl ⟨s, sr_nil, h⟩
    · rintro (⟨s1, ⟨rfl, _⟩, h⟩ | ⟨_, h⟩)
      · exact h
      · cases h.2
  | v :: l, l', s, s', b => by
    rw [List.cons_append]
    constructor
    · rintro (⟨s2, h1, h2⟩ | ⟨rfl, h⟩)
      · rcases (sr_app l l' s2 s' b).1 h2 with ⟨s3, h3, h4⟩ | ⟨rfl, h3⟩
        · exact .inl ⟨s3, sr_on h1 h3, h4⟩
        · exact .inr ⟨rfl, sr_on h1 h3⟩
      · exact .inr ⟨rfl, sr_off h⟩
    · rintro (⟨s1, h | ⟨h, _⟩, h2⟩ | ⟨rfl, h | ⟨_, h⟩⟩)
      · obtain ⟨s2, h3, h4⟩ := h
        exact sr_on h3 ((sr_app l l' s2 s' b).2 (.inl ⟨s1, h4, h2⟩))
      · cases h
      · obtain ⟨s2, h3, h4⟩ := h
        exact sr_on h3 ((sr_app l l' s2 s' false).2 (.inr ⟨rfl, h4⟩))
      · exact sr_off h
theorem sr_flat (g : β → List α) : ∀ (l : List β) (s s' : σ) (b : Bool), sr (fun s x s' b => sr f s (g x) s' b) s l s' b → sr f s (l.flatMap g) s' b
  | [], s, s', b, h => h
  | v :: l, s, s', b, h => by
    rw [List.flatMap_cons, sr_app]
    rcases h with ⟨s1, h1, h2⟩ | ⟨rfl, h1⟩
    · exact .inl ⟨s1, h1, sr_flat g l s1 s' b h2⟩
    · exact .inr ⟨rfl, h1⟩
theorem sr_map (g : β → α) : ∀ (l : List β) (s s' : σ) (b : Bool), sr (fun s x s' b => f s (g x) s' b) s l s' b → sr f s (l.map g) s' b
  | [], s, s', b, h => h
  | v :: l, s, s', b, h => by
    rw [List.map_cons]
    rcases h with ⟨s1, h1, h2⟩ | ⟨rfl, h1⟩
    · exact sr_on h1 (sr_map g l s1 s' b h2)
    · exact sr_off h1
theorem sr_imp {f' : σ → α → σ → Bool → Prop} (hf : ∀ s v s' b, f s v s' b → f' s v s' b) : ∀ (l : List α) (s s' : σ) (b : Bool), sr f s l s' b → sr f' s l s' b
  | [], s, s', b, h => h
  | v :: l, s, s', b, h => by
    rcases h with ⟨s1, h1, h2⟩ | ⟨rfl, h1⟩
    · exact sr_on (hf _ _ _ _ h1) (sr_imp hf l s1 s' b h2)
    · exact sr_off (hf _ _ _ _ h1)
end
theorem sr_some {α : Type} : ∀ {l : List α} {s' b : Bool}, sr (fun (_ : Bool) (_ : α) s' b => s' = true ∧ b = false) false l s' b → s' = !l.isEmpty
  | [], s', b, h => h.1
  | v :: l, s', b, h => by
    rcases h with ⟨s1, ⟨_, h⟩, _⟩ | ⟨_, h, _⟩
    · cases h
    · exact h
/-- What is known of a callback's state stays known. -/
def GdM {σ : Type} (Gd : Mem → σ → Prop) : Prop := ∀ M M' s, Mem.leC M M' → Gd M s → Gd M' s
theorem gup {σ : Type} {Gd : Mem → σ → Prop} (hG : GdM Gd) {M M' : Mem} {s : σ} [h : LeT M M'] (g : Gd M s) : Gd M' s := hG M M' s h.out.toC g
theorem GdM.none {σ : Type} : GdM (fun (_ : Mem) (_ : σ) => True) := fun _ _ _ _ _ => trivial
def CbR (P : Program) (M : Mem) (fy : Value) {σ : Type} (J : Bool → σ → Heap) (Gd : Mem → σ → Prop) (f : σ → VT → σ → Bool → Prop) : Prop :=
  ∀ (M' : Mem) (_ : LeT M M') (s : σ) (v : VT) (A : Option Addr) (c : Nat), VBd v → VV M' A c v → Gd M' s → AV P fy [.agg #[.int .i64 v.num, .int .i64 v.con, .slice A v.args.length c]] M' (J true s) fun r M'' H' => ∃ s' b, r = .bool b ∧ H' = J b s' ∧ f s v s' b ∧ Gd M'' s'
def CbQ (P : Program) (M : Mem) (fy : Value) (m : Nat) {σ : Type} (J : Bool → σ → Heap) (Gd : Mem → σ → Prop) (f : σ → List VT → σ → Bool → Prop) : Prop :=
  ∀ (M' : Mem) (_ : LeT M M') (s : σ) (l : List VT) (A : Option Addr) (c : Nat), l.length = m → (∀ x ∈ l, VBd x) → RdS 3 (RdV M') A c l → (l = [] → A = none ∧ c = 0) → Gd M' s → AV P fy [.slice A l.length c] M' (J true s) fun r M'' H' => ∃ s' b, r = .bool b ∧ H' = J b s' ∧ f s l s' b ∧ Gd M'' s'
theorem CbR.up {P : Program} {M M' : Mem} {fy : Value} {σ : Type} {J : Bool → σ → Heap} {Gd : Mem → σ → Prop} {f : σ → VT → σ → Bool → Prop} [q : LeT M M'] (h : CbR P M fy J Gd f) : CbR P M' fy J Gd f := fun M2 q2 => h M2 ⟨q.out.trans q2.out⟩
theorem CbQ.up {P : Program} {M M' : Mem} {fy : Value} {m : Nat} {σ : Type} {J : Bool → σ → Heap} {Gd : Mem → σ → Prop} {f : σ → List VT → σ → Bool → Prop} [q : LeT M M'] (h : CbQ P M fy m J Gd f) : CbQ P M' fy m J Gd f := fun M2 q2 => h M2 ⟨q.out.trans q2.out⟩
section
variable {σ : Type} (ex : Int → Nat → List VT) (f : σ → List VT → σ → Bool → Prop)
/-- One round of the visit of lists. -/
def lsR (t : Int) (ts : List Int) (k : Nat) (s : σ) (j : Nat) (s' : σ) (b : Bool) : Prop :=
  sr (fun s v s' b => sr (fun s l s' b => f s (v :: l) s' b) s (lsV ex ts (k - j)) s' b) s (ex t j) s' b
theorem lsR_eq (t : Int) (ts : List Int) (k : Nat) (s s' : σ) (b : Bool) (h : sr (lsR ex f t ts k) s (List.range (k + 1)) s' b) : sr f s (lsV ex (t :: ts) k) s' b := by
  rw [lsV]
  refine sr_flat _ _ _ _ _ (sr_imp (fun s j s' b h => ?_) _ _ _ _ h)
  refine sr_flat _ _ _ _ _ (sr_imp (fun s v s' b h => ?_) _ _ _ _ h)
  exact sr_map _ _ _ _ _ h
theorem lsR_none (t : Int) (ts : List Int) (k : Nat) (s : σ) (j : Nat) (h : lsV ex ts (k - j) = []) : lsR ex f t ts k s j s true := by
  unfold lsR
  rw [h]
  induction ex t j with
  | nil => exact sr_nil
  | cons v l ih => exact sr_on sr_nil ih
end
theorem consR_on {σ : Type} {f : σ → VT → σ → Bool → Prop} {ls : List Int → Nat → List (List VT)} {k : Nat} {cs : List CT} {i : Nat} (h : i < cs.length) {s s1 s' : σ} {b : Bool} (h1 : sr f s (conV ls k i cs[i]) s1 true) (h2 : sr f s1 (consV ls k (0 + (i + 1)) (cs.drop (i + 1))) s' b) : sr f s (consV ls k (0 + i) (cs.drop i)) s' b := by
  rw [consV_at ls k cs 0 i h, Nat.zero_add, sr_app]
  exact .inl ⟨s1, h1, h2⟩
theorem consR_off {σ : Type} {f : σ → VT → σ → Bool → Prop} {ls : List Int → Nat → List (List VT)} {k : Nat} {cs : List CT} {i : Nat} (h : i < cs.length) {s s' : σ} (h1 : sr f s (conV ls k i cs[i]) s' false) : sr f s (consV ls k (0 + i) (cs.drop i)) s' false := by
  rw [consV_at ls k cs 0 i h, Nat.zero_add, sr_app]
  exact .inr ⟨rfl, h1⟩
theorem conR_3 {ls : List Int → Nat → List (List VT)} {i : Nat} {c : CT} {k : Nat} (h : c.fields.length ≠ 0) (hk : k ≠ 0) {σ : Type} {f : σ → VT → σ → Bool → Prop} {s s' : σ} {b : Bool} (hs : sr (fun s l s' b => f s ⟨0, i, l⟩ s' b) s (ls c.fields (k - 1)) s' b) : sr f s (conV ls k i c) s' b := by
  rw [conV, if_neg h, if_neg hk]; exact sr_map _ _ _ _ _ hs
end Go.Proofs.YtieaiheejhmbfaaGreatDoor.ML
/- The abstract layer: a struct stored into an own row; a region whose first part stands ahead of all the rest. No conditions. -/
namespace Go.Proofs.YtieaiheejhmbfaaGreatDoor.ML
open Go.RowKit
set_option linter.unusedVariables false
set_option linter.unusedSimpArgs false
def putR (vs : List Value) (off : Nat) : List Value → List Value
  | [] => vs
  | u :: us => putR (vs.set off u) (off + 1) us
theorem putR_end : ∀ (us old vs : List Value), old.length = us.length → putR (vs ++ old) vs.length us = vs ++ us
  | [], [], vs, _ => rfl
  | [], _ :: _, _, h => by simp at h
  | _ :: _, [], _, h => by simp at h
  | u :: us, o :: old, vs, h => by
    have e : (vs ++ o :: old).set vs.length u = (vs ++ [u]) ++ old := by simp
    rw [putR, e, show vs.length + 1 = (vs ++ [u]).length by simp, putR_end us old (vs ++ [u]) (by simpa using h)]
    simp
theorem run_storeRow {P : Program} {g : GW} {M : Mem} {H : Heap} {b off n c E zz : Nat} : ∀ (us : List Value) (i : Nat) (vs : List Value) (w : World), St g M (.row (some ⟨b, 0, none⟩) n c E zz vs :: H) w → off + i + us.length ≤ vs.length → (∀ v ∈ us, v.oneCell' = true) →
    ∃ w', (storeCells ⟨b, off, none⟩ us i).run P w = .ok () w' ∧ St g M (.row (some ⟨b, 0, none⟩) n c E zz (putR vs (off + i) us) :: H) w'
  | [], i, vs, w, hS, _, _ => ⟨w, rfl, hS⟩
  | u :: us, i, vs, w, hS, hl, hv => by
    simp only [List.length_cons] at hl
    have hown : w.ownsRow 0 E zz (.slice (some ⟨b, 0, none⟩) n c) n vs := hS.own _ (List.mem_cons_self ..)
    have hs := hown.stored (off + i) u
    have ho : off + i < vs.length := by omega
    have hc : w.cell? ⟨b, off + i, none⟩ = some vs[off + i] := by rw [hown.cellAt (off + i) (by rw [← hown.1]; exact ho)]; simp [ho]
    have hS1 := St.turn (E := [.row (some ⟨b, 0, none⟩) n c E zz vs]) (.row (some ⟨b, 0, none⟩) n c E zz (vs.set (off + i) u)) hS hs.2.os hs.2.tape hs.2.output hs.2.size hs.1 (fun k hk hne => hs.2.block k hk fun e => hne (by cases e; simp [fps, Ent.fp])) (fun k hk => .inl (by simpa [fps, Ent.fp] using hk)) (by simp [Ent.fp])
    obtain ⟨w', hr, hS'⟩ := run_storeRow (P := P) (off := off) us (i + 1) (vs.set (off + i) u) _ hS1 (by simp; omega) (fun x hx => hv x (List.mem_cons_of_mem _ hx))
    refine ⟨w', ?_, hS'⟩
    simp only [storeCells, Sem.run_bind, add_addr, run_store P w _ u .plain (hv u (List.mem_cons_self ..)), hc, hown.frozenAt (off + i), Bool.false_eq_true, if_false, Result.andThen_ok, hr]
section
variable {P : Program} {ro : RO} {ops : Array Oper} {Q : Post} {tm : Tm} {M : Mem} {H : Heap} {K : Tm → Mem → Heap → Prop} {gd : Option (Nat × Bool)}
variable {ty : TypeId} {pos : String} {aft : Array Edge} {x y : Operand} {T : TypeId} {o : Oper}
/-- A struct stored into an own row. -/
theorem S.stRA {b off E zz k : Nat} {vs us : List Value} {FF : Ent → Heap} [Ag P T k] [hx : Ev tm x (.pointer (some ⟨b, off, none⟩))] [hy : Ev tm y (.agg us.toArray)] (hv : ∀ v ∈ us, v.oneCell' = true) (hk : us.length = k) (n c : Nat) [hr : Rwf H (some ⟨b, 0, none⟩) n c E zz vs FF] (ho : off + us.length ≤ vs.length)
    (h : K tm M (FF (.row (some ⟨b, 0, none⟩) n c E zz (putR vs off us)))) : AS P ro ⟨none, .store T x y, ty, pos, aft, gd⟩ tm M H K := by
  obtain ⟨r, h2, h3⟩ := hr.out
  exact AS.skipv rfl rfl fun g w hS => by
    obtain ⟨w', hrun, hS'⟩ := run_storeRow (P := P) (off := off) us 0 vs w (hS.at h2) (by simpa using ho) hv
    refine ⟨w', M, _, ?_, .refl M, St.back (List.getElem?_eq_some_iff.1 h2).1 hS', by rw [h3]; exact h⟩
    simp only [execOp, hx.out, hy.out, Instr.storeAt, Instr.sureAddr, Sem.run_bind, Sem.run_pure, Result.andThen_ok, storeVar, Value.cells, Ag.size]
    simp [hk, hrun]
/-- Behind an operation the state is one. -/
theorem AS.st (h : AS P ro o tm M H (fun tm' M' H' => (∃ g w, St g M' H' w) → K tm' M' H')) : AS P ro o tm M H K := fun g w hS => by
  refine opIn_mono (fun a w' hh => ?_) (fun _ _ _ h => h) (h g w hS)
  obtain ⟨tm', M', H', rfl, hM, hS', hk⟩ := hh
  exact ⟨tm', M', H', rfl, hM, hS', hk ⟨_, _, hS'⟩⟩
/-- A result that stands in a cell of its own. -/
theorem Res.icC {fn : Func} {t T b : Nat} {v : Value} (h : fn.results = #[.cell t T]) [Sc P T] [hg : Gt tm t (.pointer (some ⟨b, 0, none⟩))] [hc : Cg M H b 0 v] : Res P fn tm M H v := Res.cel h hg.out hc.out
/-! ### A region in two parts -/
def X3 (P : Program) (ro : RO) (ops : Array Oper) (tab : List (List Nat)) (a b : Nat) (Q : Tm → Mem → Heap → Prop) (l : List Nat) (tm : Tm) (M : Mem) (H : Heap) : Prop :=
  (∃ l1, (∀ i, i ∈ l ↔ i ∈ l1) ∧ l1.Nodup ∧ sepB ops tab (fun _ _ => false) l1 = true ∧ AT P ro ops true Q l1 tm M H) ∨
  ∃ l1 l2, (∀ i, i ∈ l ↔ i ∈ l1) ∧ (∀ i, i ∈ l ↔ i ∈ l2) ∧ l1.Nodup ∧ l2.Nodup ∧ sepB ops tab (fun i j => i == a && (j == b || (tab.getD j []).contains b)) l1 = true ∧ sepB ops tab (fun i j => i == b && (j == a || (tab.getD j []).contains a)) l2 = true ∧
    (∀ i ∈ l, (match ops[i]? with | some o => isEv o.op = false | none => False) ∨ i = a ∨ i = b ∨ ((tab.getD i []).contains a = true)) ∧ a ∈ l ∧ b ∈ l ∧ AT P ro ops true Q l1 tm M H ∧ AT P ro ops true Q l2 tm M H
theorem X3.step {tab : List (List Nat)} {a b i : Nat} {QT : Tm → Mem → Heap → Prop} {l : List Nat} (d7 : a ≠ b) (hw : ∃ g w, St g M H w) (hA : X3 P ro ops tab a b QT l tm M H) (hnd : l.Nodup) (hi : i ∈ l) (hr : ∀ j ∈ l, (tab.getD i []).contains j = false) : ∃ o, ops[i]? = some o ∧ ST P ro ops o tm M H (X3 P ro ops tab a b QT (l.erase i)) := by
  have me : ∀ {l l1 : List Nat} (i : Nat), l.Nodup → l1.Nodup → (∀ i, i ∈ l ↔ i ∈ l1) → ∀ k, k ∈ l.erase i ↔ k ∈ l1.erase i := fun i h1 h2 h k => by rw [h1.mem_erase_iff, h2.mem_erase_iff, h k]
  have hfalse : ∀ {l1 : List Nat} {p : Nat} {f : Nat → Bool}, l1.Nodup → sepB ops tab (fun i j => i == p && f j) l1 = true → sepB ops tab (fun _ _ => false) (l1.erase p) = true := fun {l1 p f} hn hs =>
    sepB_mono (fun i hi j hj he => by
      simp only [Bool.and_eq_true, beq_iff_eq] at he
      rw [he.1, hn.mem_erase_iff] at hi
      exact absurd rfl hi.1) (sepB_erase hs p)
  rcases hA with ⟨l1, e1, n1, s1, A1⟩ | ⟨l1, l2, e1, e2, n1, n2, s1, s2, ot, ha, hb, A1, A2⟩
  · obtain ⟨o, ho, hst, _⟩ := AT.first (.inl rfl) s1 n1 ((e1 i).1 hi) (fun j hj => ⟨rfl, hr j ((e1 j).2 hj)⟩) A1
    exact ⟨o, ho, hst.mono fun _ _ _ _ h => .inl ⟨l1.erase i, me i hnd n1 e1, n1.erase i, sepB_erase s1 i, h⟩⟩
  · by_cases ia : i = a
    · subst ia
      obtain ⟨o, ho, hst, _⟩ := AT.first (.inl rfl) s1 n1 ((e1 i).1 hi) (fun j hj => ⟨by rw [hr b hb]; simp [d7], hr j ((e1 j).2 hj)⟩) A1
      exact ⟨o, ho, hst.mono fun _ _ _ _ h => .inl ⟨l1.erase i, me i hnd n1 e1, n1.erase i, hfalse (f := fun j => j == b || (tab.getD j []).contains b) n1 s1, h⟩⟩
    by_cases ib : i = b
    · subst ib
      obtain ⟨o, ho, hst, _⟩ := AT.first (.inl rfl) s2 n2 ((e2 i).1 hi) (fun j hj => ⟨by rw [hr a ha]; simp; intro _ e; exact d7 e.symm, hr j ((e2 j).2 hj)⟩) A2
      exact ⟨o, ho, hst.mono fun _ _ _ _ h => .inl ⟨l2.erase i, me i hnd n2 e2, n2.erase i, hfalse (f := fun j => j == a || (tab.getD j []).contains a) n2 s2, h⟩⟩
    obtain ⟨o, ho, _, p1⟩ := AT.first (.inl rfl) s1 n1 ((e1 i).1 hi) (fun j hj => ⟨by rw [hr b hb]; simp [ib], hr j ((e1 j).2 hj)⟩) A1
    obtain ⟨o', ho', _, p2⟩ := AT.first (.inl rfl) s2 n2 ((e2 i).1 hi) (fun j hj => ⟨by rw [hr a ha]; simp [ia], hr j ((e2 j).2 hj)⟩) A2
    rw [ho] at ho'; cases ho'
    rcases ot i hi with hp | hp | hp | hp
    · rw [ho] at hp
      obtain ⟨v, hv, k1⟩ := p1 hp
      obtain ⟨v', hv', k2⟩ := p2 hp
      obtain rfl := PVG.uniq hw hv hv'
      exact ⟨o, ho, ST.ofG hv (.inr ⟨l1.erase i, l2.erase i, me i hnd n1 e1, me i hnd n2 e2, n1.erase i, n2.erase i, sepB_erase s1 i, sepB_erase s2 i, fun k hk => ot k (List.mem_of_mem_erase hk), hnd.mem_erase_iff.2 ⟨fun e => ia e.symm, ha⟩, hnd.mem_erase_iff.2 ⟨fun e => ib e.symm, hb⟩, k1, k2⟩)⟩
    · exact absurd hp ia
    · exact absurd hp ib
    · rw [hr a ha] at hp; cases hp
theorem X3.nil {tab : List (List Nat)} {a b : Nat} {QT : Tm → Mem → Heap → Prop} (hA : X3 P ro ops tab a b QT [] tm M H) : QT tm M H := by
  rcases hA with ⟨l1, e1, n1, s1, A1⟩ | ⟨l1, l2, e1, e2, n1, n2, s1, s2, ot, ha, hb, A1, A2⟩
  · have : l1 = [] := List.eq_nil_iff_forall_not_mem.2 fun i hi => by have := (e1 i).2 hi; simp at this
    subst this; exact A1
  · simp at ha
/-- The first part is walked in one order, loads of own cells beside events; all of the second part leans on all of the first; in it two events in either order. -/
def chkPS (ops : Array Oper) (a b : Nat) (pre s s' : List Nat) (tab : List (List Nat)) : Bool :=
  sepB ops tab (fun _ _ => false) pre && s.all (fun i => pre.all fun j => (tab.getD i []).contains j) && sepB ops tab (fun i j => i == a && (j == b || (tab.getD j []).contains b)) s && sepB ops tab (fun i j => i == b && (j == a || (tab.getD j []).contains a)) s'
    && linB ops (pre ++ s) && tabB ops tab && (pre ++ s).length == ops.size && (List.range ops.size).all (fun i => (pre ++ s).contains i) && (List.range ops.size).all (fun j => (dirs ops j).all fun d => d < ops.size) && ndB (pre ++ s) && (pre ++ s).all (fun i => i < ops.size)
    && ndB s' && s'.all (fun i => s.contains i) && s.all (fun i => s'.contains i) && s.all (fun i => (match ops[i]? with | some o => !isEv o.op | none => false) || i == a || i == b || ((tab.getD i []).contains a && (tab.getD i []).contains b)) && s.contains a && s.contains b && (a != b)
theorem AW.regionPS {id : Nat} {l0 : List Oper} (hx : P.follows .mixedOrders = true) (a b : Nat) (pre s s' : List Nat) (tab : List (List Nat)) (hc : chkPS l0.toArray a b pre s s' tab = true)
    (h : ATp P ro l0.toArray tab (fun tm M H => AT P ro l0.toArray true (outQ Q) s tm M H ∧ AT P ro l0.toArray true (outQ Q) s' tm M H) [] pre tm M H) : AW P ro (.region id l0.toArray true) Q tm M H := by
  unfold chkPS at hc
  simp only [Bool.and_eq_true, beq_iff_eq, List.all_eq_true, List.mem_range, Bool.or_eq_true, decide_eq_true_eq, bne_iff_ne] at hc
  obtain ⟨⟨⟨⟨⟨⟨⟨⟨⟨⟨⟨⟨⟨⟨⟨⟨⟨p1, p2⟩, c1⟩, c1'⟩, c2⟩, c3⟩, c4⟩, c5⟩, c7⟩, c8⟩, c9⟩, d1⟩, d2⟩, d3⟩, d4⟩, d5⟩, d6⟩, d7⟩ := hc
  have hnd0 := ndB_nodup c8
  rw [List.nodup_append] at hnd0
  obtain ⟨npre, ns, hdis⟩ := hnd0
  have hX0 : ∀ tm M H, (AT P ro l0.toArray true (outQ Q) s tm M H ∧ AT P ro l0.toArray true (outQ Q) s' tm M H) → X3 P ro l0.toArray tab a b (outQ Q) s tm M H := fun tm M H hh =>
    .inr ⟨s, s', fun i => Iff.rfl, fun i => ⟨fun hi => List.contains_iff_mem.1 (d3 i hi), fun hi => List.contains_iff_mem.1 (d2 i hi)⟩, ns, ndB_nodup d1, c1, c1', fun i hi => by
      rcases d4 i hi with ((h | h) | h) | h
      · left
        split at h
        · simpa using h
        · cases h
      · exact .inr (.inl h)
      · exact .inr (.inr (.inl h))
      · exact .inr (.inr (.inr h.1)), List.contains_iff_mem.1 d5, List.contains_iff_mem.1 d6, hh.1, hh.2⟩
  refine AW.regionX (tab := tab) (X := fun l tm M H => (∃ l1 pd, l1 ≠ [] ∧ (∀ i, i ∈ l ↔ i ∈ l1 ∨ i ∈ s) ∧ (∀ i ∈ l1, i ∈ pre) ∧ l1.Nodup ∧ sepB l0.toArray tab (fun _ _ => false) l1 = true ∧ ATp P ro l0.toArray tab (fun tm M H => AT P ro l0.toArray true (outQ Q) s tm M H ∧ AT P ro l0.toArray true (outQ Q) s' tm M H) pd l1 tm M H) ∨ ∃ l2, (∀ i, i ∈ l ↔ i ∈ l2) ∧ l2.Nodup ∧ X3 P ro l0.toArray tab a b (outQ Q) l2 tm M H) hx (fun l i tm M H hw hA hnd hi hr => ?_) (fun tm M H hA => ?_) true (pre ++ s) c2 c3 c4 c5 c7 c8 c9 ?_
  · rcases hA with ⟨l1, pd, hne, hm, hsub, n1, s1, A1⟩ | ⟨l2, hm, n2, hX⟩
    · have hi1 : i ∈ l1 := by
        rcases (hm i).1 hi with h | h
        · exact h
        · exfalso
          obtain ⟨j, hj⟩ := List.exists_mem_of_ne_nil _ hne
          have := hr j ((hm j).2 (.inl hj))
          rw [p2 i h j (hsub j hj)] at this
          cases this
      obtain ⟨o, ho, hst, hpv⟩ := ATp.first s1 n1 hi1 (fun j hj => ⟨rfl, hr j ((hm j).2 (.inl hj))⟩) A1
      have hcl : ∀ pd' tm' M' H', ATp P ro l0.toArray tab (fun tm M H => AT P ro l0.toArray true (outQ Q) s tm M H ∧ AT P ro l0.toArray true (outQ Q) s' tm M H) pd' (l1.erase i) tm' M' H' → ((∃ l1' pd, l1' ≠ [] ∧ (∀ k, k ∈ l.erase i ↔ k ∈ l1' ∨ k ∈ s) ∧ (∀ k ∈ l1', k ∈ pre) ∧ l1'.Nodup ∧ sepB l0.toArray tab (fun _ _ => false) l1' = true ∧ ATp P ro l0.toArray tab (fun tm M H => AT P ro l0.toArray true (outQ Q) s tm M H ∧ AT P ro l0.toArray true (outQ Q) s' tm M H) pd l1' tm' M' H') ∨ ∃ l2, (∀ k, k ∈ l.erase i ↔ k ∈ l2) ∧ l2.Nodup ∧ X3 P ro l0.toArray tab a b (outQ Q) l2 tm' M' H') := fun pd' tm' M' H' hh => by
        have hk : ∀ k, k ∈ l.erase i ↔ k ∈ l1.erase i ∨ k ∈ s := fun k => by
          rw [hnd.mem_erase_iff, n1.mem_erase_iff, hm k]
          constructor
          · rintro ⟨h1, h2 | h2⟩
            · exact .inl ⟨h1, h2⟩
            · exact .inr h2
          · rintro (⟨h1, h2⟩ | h2)
            · exact ⟨h1, .inl h2⟩
            · exact ⟨fun e => hdis i (hsub i hi1) k h2 e.symm, .inr h2⟩
        by_cases he : l1.erase i = []
        · right
          rw [he] at hh hk
          exact ⟨s, fun k => by rw [hk k]; simp, ns, hX0 _ _ _ hh⟩
        · exact .inl ⟨l1.erase i, pd', he, hk, fun k hk => hsub k (List.mem_of_mem_erase hk), n1.erase i, sepB_erase s1 i, hh⟩
      refine ⟨o, ho, ?_⟩
      cases hev : isEv o.op with
      | true => exact (hst hev).mono fun _ _ _ _ h => hcl _ _ _ _ h.2
      | false =>
        obtain ⟨v, e, hv, hk⟩ := hpv hev
        exact ST.ofG hv.g (hcl _ _ _ _ hk)
    · obtain ⟨o, ho, hst⟩ := X3.step d7 hw hX n2 ((hm i).1 hi) (fun j hj => hr j ((hm j).2 hj))
      exact ⟨o, ho, hst.mono fun _ _ _ _ h => .inr ⟨l2.erase i, fun k => by rw [hnd.mem_erase_iff, n2.mem_erase_iff, hm k], n2.erase i, h⟩⟩
  · rcases hA with ⟨l1, pd, hne, hm, _⟩ | ⟨l2, hm, n2, hX⟩
    · obtain ⟨j, hj⟩ := List.exists_mem_of_ne_nil _ hne
      have := (hm j).2 (.inl hj)
      simp at this
    · have : l2 = [] := List.eq_nil_iff_forall_not_mem.2 fun i hi => by have := (hm i).2 hi; simp at this
      subst this
      exact X3.nil hX
  · by_cases hp : pre = []
    · subst hp
      exact .inr ⟨s, fun i => by simp, ns, hX0 _ _ _ h⟩
    · exact .inl ⟨pre, [], hp, fun i => List.mem_append, fun i hi => hi, npre, p1, h⟩
end
end Go.Proofs.YtieaiheejhmbfaaGreatDoor.ML
/- Walks of functions of the program, in the abstract layer. No conditions. -/
namespace Go.Proofs.YtieaiheejhmbfaaGreatDoor.ML
open Go.RowKit
set_option linter.unusedVariables false
set_option linter.unusedSimpArgs false
set_option maxHeartbeats 1600000 in
set_option synthInstance.maxHeartbeats 400000 in
set_option synthInstance.maxSize 100000 in
set_option maxRecDepth 100000 in
theorem exa1r_c {σ : Type} (J : Bool → σ → Heap) (Gd : Mem → σ → Prop) (hGd : GdM Gd) (f : σ → VT → σ → Bool → Prop) (fy : Value) (M : Mem) (b7 b9 : Nat) (con : Int) (h7 : Mb M b7 [fy]) (h9 : Mb M b9 [.int .i64 con]) (hy : CbR Tryz.prog M fy J Gd f) (s : σ) (A : Option Addr) (c : Nat) (l : List VT) (hl : RdS 3 (RdV M) A c l) (hb : l.length ≤ 1000000) (hv : ∀ x ∈ l, VBd x) (g : Gd M s) :
    AC Tryz.prog 86 [.slice A l.length c, .pointer (some ⟨b7, 0, none⟩), .pointer (some ⟨b9, 0, none⟩)] M (J true s) fun r M' H' => ∃ s' b, r = .bool b ∧ H' = J b s' ∧ f s ⟨0, con, l⟩ s' b ∧ Gd M' s' := by
  refine AC.of (n := 7) Tryz.func86 rfl rfl ?_
  dsimp only [List.replicate, List.cons_append, List.nil_append]
  refine AW.seq ?_
  refine AW.region ?_
  refine st V.assign ?_
  refine sn ?_
  refine AW.seq ?_
  refine AW.region ?_
  first | refine st V.ld ?_ | refine sq V.lo ?_
  first | refine st V.ld ?_ | refine sq V.lo ?_
  refine st V.move ?_
  refine st (V.build (cells := [.int .i64 0, .int .i64 con, .slice A l.length c]) rfl) ?_
  refine se (S.callV ?_)
  refine (hy _ inferInstance s ⟨0, con, l⟩ A c (.mk hb hv) hl (gup hGd g)).use ?_
  rintro v N G iz ⟨s1, b1', rfl, rfl, hf1, hg1⟩
  refine st V.assign ?_
  refine sn ?_
  refine AW.ret ?_
  repeat with_reducible first | refine thn_ret ?_ | refine inb_ret ?_
  refine fin (Res.i1 rfl) ?_
  exact ⟨_, (by repeat first | exact List.Sublist.refl _ | apply List.Sublist.cons), _, _, rfl, rfl, hf1, gup hGd hg1⟩
set_option maxHeartbeats 1600000 in
set_option synthInstance.maxHeartbeats 400000 in
set_option synthInstance.maxSize 100000 in
set_option maxRecDepth 100000 in
theorem lis3r_c {σ : Type} (J : Bool → σ → Heap) (Gd : Mem → σ → Prop) (hGd : GdM Gd) (m : Nat) (hm : m ≤ 100000) (f : σ → List VT → σ → Bool → Prop) (fy : Value) (M : Mem) (b7 b6 : Nat) (v : VT) (Av : Option Addr) (cv : Nat) (h7 : Mb M b7 [fy]) (h6 : Mb M b6 [.int .i64 v.num, .int .i64 v.con, .slice Av v.args.length cv]) (hv : VV M Av cv v) (hvb : VBd v) (hy : CbQ Tryz.prog M fy (m + 1) J Gd f) (s : σ) (A : Option Addr) (c : Nat) (l : List VT) (hlm : l.length = m) (hl : RdS 3 (RdV M) A c l) (h0 : l = [] → A = none ∧ c = 0) (hlb : ∀ x ∈ l, VBd x) (g : Gd M s) :
    AC Tryz.prog 111 [.slice A l.length c, .pointer (some ⟨b7, 0, none⟩), .pointer (some ⟨b6, 0, none⟩)] M (J true s) fun r M' H' => ∃ s' b, r = .bool b ∧ H' = J b s' ∧ f s (v :: l) s' b ∧ Gd M' s' := by
  refine AC.of (n := 8) Tryz.func111 rfl rfl ?_
  dsimp only [List.replicate, List.cons_append, List.nil_append]
  refine AW.seq ?_
  refine AW.region ?_
  refine st V.assign ?_
  refine sn ?_
  refine AW.seq ?_
  refine AW.regionD mx true [0, 1, 3, 2, 4, 5, 6] [[], [], [1], [], [1, 2, 3], [0, 1, 2, 3, 4], [0, 1, 2, 3, 4, 5]] (by kernel_rfl) ?_
  refine D.p rfl rfl V.ld ?_
  refine D.p rfl rfl V.ldA ?_
  refine D.p rfl rfl V.move ?_
  refine D.e rfl rfl (S.lit1 (by rfl) (by decide) ?_); intro g7
  refine D.e rfl rfl (S.apV rfl (by rfl) hl h0 (by omega) (by omega) ?_)
  intro A2 c2 vs2 hf2
  refine D.e rfl rfl (S.callV ?_)
  refine AV.kp fun Mk ik hk => ?_
  obtain ⟨_, hr⟩ := hk.vals (((FlV.one (M := Mk) (VV.up hv)).app (hf2.up (M' := Mk)))) (by simp; omega)
  refine (hy _ inferInstance s (v :: l) A2 c2 (by simp [hlm]) (by intro x hx; rcases List.mem_cons.1 hx with rfl | hx; exact hvb; exact hlb x hx) hr (fun e => by cases e) (gup hGd g)).use ?_
  rintro v5 N G iz ⟨s1, b1', rfl, rfl, hf1, hg1⟩
  refine D.p rfl rfl V.assign ?_
  refine D.nl ?_
  refine AW.ret ?_
  repeat with_reducible first | refine thn_ret ?_ | refine inb_ret ?_
  refine fin (Res.i1 rfl) ?_
  exact ⟨_, (by repeat first | exact List.Sublist.refl _ | apply List.Sublist.cons), _, _, rfl, rfl, hf1, gup hGd hg1⟩
set_option maxHeartbeats 1600000 in
set_option synthInstance.maxHeartbeats 400000 in
set_option synthInstance.maxSize 100000 in
set_option maxRecDepth 100000 in
theorem lis2r_c {σ : Type} (d : List DT) (ex : Int → Nat → List VT) (J : Bool → σ → Heap) (Gd : Mem → σ → Prop) (hGd : GdM Gd) (f : σ → List VT → σ → Bool → Prop) (fy : Value) (M : Mem) (b1 b2 b3 b4 b5 : Nat) (Ad : Option Addr) (cd : Nat) (A : Option Addr) (c : Nat) (t0 : Int) (ts : List Int) (k j : Nat) (hjk : j ≤ k) (hkb : k ≤ 1000000) (htb : ts.length ≤ 100000)
    (h1 : Mb M b1 [.slice Ad d.length cd]) (h2 : Mb M b2 [.slice A (ts.length + 1) c]) (h3 : Mb M b3 [.int .i64 k]) (h4 : Mb M b4 [.int .i64 j]) (h5 : Mb M b5 [fy]) (hd : RdS 2 (RdD M) Ad cd d) (hA : RdS 1 (RdI M) A c (t0 :: ts)) (hy : CbQ Tryz.prog M fy (ts.length + 1) J Gd f)
    (hL : ∀ (g : σ → List VT → σ → Bool → Prop) (fz : Value) (_ : Fv fz) (s : σ) (M' : Mem) (_ : LeT M M') (A' : Option Addr) (c' : Nat), RdS 1 (RdI M') A' c' ts → Gd M' s → CbQ Tryz.prog M' fz ts.length J Gd g → AC Tryz.prog 85 [.slice Ad d.length cd, .slice A' ts.length c', .int .i64 ((k - j : Nat) : Int), fz] M' (J true s) fun r M' H' => ∃ s' b, r = .bool b ∧ H' = J b s' ∧ sr g s (lsV ex ts (k - j)) s' b ∧ Gd M' s')
    (s : σ) (v : VT) (Av : Option Addr) (cv : Nat) (hv : VV M Av cv v) (hvb : VBd v) (g : Gd M s) :
    AC Tryz.prog 110 [.agg #[.int .i64 v.num, .int .i64 v.con, .slice Av v.args.length cv], .pointer (some ⟨b1, 0, none⟩), .pointer (some ⟨b2, 0, none⟩), .pointer (some ⟨b3, 0, none⟩), .pointer (some ⟨b4, 0, none⟩), .pointer (some ⟨b5, 0, none⟩)] M (J true s) fun r M' H' => ∃ s' b, r = .bool b ∧ H' = J b s' ∧ sr (fun s l s' b => f s (v :: l) s' b) s (lsV ex ts (k - j)) s' b ∧ Gd M' s' := by
  refine AC.of (n := 10) Tryz.func110 rfl rfl ?_
  dsimp only [List.replicate, List.cons_append, List.nil_append]
  refine AW.seq ?_
  refine AW.region ?_
  refine se (S.boxM ?_); intro b6 M6 i6 j6
  refine st V.assign ?_
  refine sn ?_
  refine AW.seq ?_
  refine AW.regionD mx true [0, 1, 2, 3, 4, 5, 6, 7, 8] [[], [], [1], [], [], [3, 4], [], [0, 1, 2, 3, 4, 5, 6], [0, 1, 2, 3, 4, 5, 6, 7]] (by kernel_rfl) ?_
  refine D.p rfl rfl V.ld ?_
  refine D.p rfl rfl V.ld ?_
  refine D.p rfl rfl (V.slL (by omega) (by omega)) ?_
  refine D.p rfl rfl V.ld ?_
  refine D.p rfl rfl V.ld ?_
  refine D.p rfl rfl (V.sub64 (by omega)) ?_
  refine D.p rfl rfl V.fn ?_
  have hr := hA.drop 1 (by simp)
  have e1 : (((k : Int) - (j : Int))) = ((k - j : Nat) : Int) := by omega
  refine D.e rfl rfl (S.call ?_)
  rw [e1]
  refine (hL (fun s l s' b => f s (v :: l) s' b) (.func (.func 111) #[] #[.pointer (some ⟨b5, 0, none⟩), .pointer (some ⟨b6, 0, none⟩)]) inferInstance s _ inferInstance _ _ (RdS.imp hr fun b o x h => h.up) (gup hGd g) (fun M2 q s' l' A' c' hl' hb' hr' h0' hg' => AV.func (fst := #[]) (cap := #[_, _]) (lis3r_c J Gd hGd ts.length (by omega) f fy M2 b5 b6 v Av cv (Mb.up (h := ⟨(inferInstance : LeT M M6).out.trans q.out⟩) h5) (Mb.up (h := q) j6) (VV.up (hm := ⟨(inferInstance : LeT M M6).out.trans q.out⟩) hv) hvb (CbQ.up (q := ⟨(inferInstance : LeT M M6).out.trans q.out⟩) hy) s' A' c' l' hl' hr' h0' hb' hg'))).use ?_
  rintro v5 N G iz ⟨s1, b1', rfl, rfl, hf1, hg1⟩
  refine D.p rfl rfl V.assign ?_
  refine D.nl ?_
  refine AW.ret ?_
  repeat with_reducible first | refine thn_ret ?_ | refine inb_ret ?_
  refine fin (Res.i1 rfl) ?_
  exact ⟨_, (by repeat first | exact List.Sublist.refl _ | apply List.Sublist.cons), _, _, rfl, rfl, hf1, gup hGd hg1⟩
end Go.Proofs.YtieaiheejhmbfaaGreatDoor.ML
/- Walks of functions of the program, in the abstract layer. No conditions. -/
namespace Go.Proofs.YtieaiheejhmbfaaGreatDoor.ML
open Go.RowKit
set_option linter.unusedVariables false
set_option linter.unusedSimpArgs false
set_option maxHeartbeats 1600000 in
set_option synthInstance.maxHeartbeats 400000 in
set_option synthInstance.maxSize 100000 in
set_option maxRecDepth 100000 in
theorem lists85r_c (d : List DT) (n : Nat) (hn6 : n ≤ 1000000) (hex : ∀ (σ : Type) (J : Bool → σ → Heap) (Gd : Mem → σ → Prop) (hGd : GdM Gd) (f : σ → VT → σ → Bool → Prop) (fy : Value) (_ : Fv fy) (t : Int) (k : Nat), k < n → (0 ≤ t ∧ t ≤ d.length) → ∀ (s : σ) (M : Mem) (Ad : Option Addr) (cd : Nat), RdS 2 (RdD M) Ad cd d → Gd M s → CbR Tryz.prog M fy J Gd f → AC Tryz.prog 59 [.slice Ad d.length cd, .int .i64 t, .int .i64 k, fy] M (J true s) fun r M' H' => ∃ s' b, r = .bool b ∧ H' = J b s' ∧ sr f s (exA d n t k) s' b ∧ Gd M' s') : ∀ (z : Nat) (ts : List Int), ts.length < z → (∀ x ∈ ts, 0 ≤ x ∧ x ≤ d.length) → ts.length ≤ 100000 → ∀ (k : Nat), k < n → ∀ (σ : Type) (J : Bool → σ → Heap) (Gd : Mem → σ → Prop) (hGd : GdM Gd) (f : σ → List VT → σ → Bool → Prop) (fy : Value) (_ : Fv fy) (s : σ) (M : Mem) (Ad : Option Addr) (cd : Nat) (A : Option Addr) (c : Nat), RdS 2 (RdD M) Ad cd d → RdS 1 (RdI M) A c ts → Gd M s → CbQ Tryz.prog M fy ts.length J Gd f →
    AC Tryz.prog 85 [.slice Ad d.length cd, .slice A ts.length c, .int .i64 k, fy] M (J true s) fun r M' H' => ∃ s' b, r = .bool b ∧ H' = J b s' ∧ sr f s (lsV (exA d n) ts k) s' b ∧ Gd M' s'
  | 0, ts, hz => by omega
  | z + 1, ts, hz => by
    intro hT htb k hk σ J Gd hGd f fy hfv s M Ad cd A c hd hA g hy
    refine AC.of (n := 42) Tryz.func85 rfl rfl ?_
    dsimp only [List.replicate, List.cons_append, List.nil_append]
    refine AW.seq ?_
    refine AW.region ?_
    refine se (S.boxM ?_); intro b4 M4 i4 j4
    refine se (S.boxM ?_); intro b5 M5 i5 j5
    refine se (S.boxM ?_); intro b6 M6 i6 j6
    refine se (S.boxM ?_); intro b7 M7 i7 j7
    refine st V.assign ?_
    refine sn ?_
    refine AW.seq ?_
    refine AW.seq ?_
    refine AW.region ?_
    first | refine st V.ld ?_ | refine sq V.lo ?_
    refine st V.len ?_
    refine st V.eql ?_
    refine sn ?_
    refine cond (fun h1 => ?_) (fun h1 => ?_)
    ·
      have k1 := bp h1
      obtain rfl : ts = [] := List.eq_nil_of_length_eq_zero (by omega)
      refine AW.seq ?_
      refine AW.region ?_
      first | refine st V.ld ?_ | refine sq V.lo ?_
      refine st V.gtr ?_
      refine st V.move ?_
      refine onoff true rfl rfl (fun h2 => ?_) (fun h2 => ?_)
      ·
        have k2 := bp h2
        first | refine st V.ld ?_ | refine sq V.lo ?_
        refine on rfl h2 ?_
        refine se (S.callV ?_)
        refine (hy _ inferInstance s [] none 0 (by simp) (by simp) RdS.nil (fun _ => ⟨rfl, rfl⟩) (gup hGd g)).use ?_
        rintro v N G iz ⟨s9, b9', rfl, rfl, hf9, hg9⟩
        refine st (V.pF h2) ?_
        refine st V.assign ?_
        refine sn ?_
        refine AW.ret ?_
        repeat with_reducible first | refine thn_ret ?_ | refine inb_ret ?_
        refine fin (Res.i1 rfl) ?_
        have e0 : lsV (exA d n) [] k = [[]] := by rw [lsV, if_pos (by omega)]
        rw [e0]
        exact ⟨_, (by repeat first | exact List.Sublist.refl _ | apply List.Sublist.cons), _, _, rfl, rfl, sr_one hf9, gup hGd hg9⟩
      ·
        have k2 := bp h2
        refine off rfl h2 ?_
        refine st (V.pT h2) ?_
        refine st V.assign ?_
        refine sn ?_
        refine AW.ret ?_
        repeat with_reducible first | refine thn_ret ?_ | refine inb_ret ?_
        refine fin (Res.i1 rfl) ?_
        have e0 : lsV (exA d n) [] k = [] := by rw [lsV, if_neg (by omega)]
        rw [e0]
        exact ⟨_, (by repeat first | exact List.Sublist.refl _ | apply List.Sublist.cons), _, _, rfl, rfl, sr_nil, gup hGd g⟩
    ·
      have k1 := bp h1
      obtain ⟨t0, ts, rfl⟩ : ∃ t0 ts', ts = t0 :: ts' := by cases ts with | nil => simp at k1 | cons a l => exact ⟨a, l, rfl⟩
      simp only [List.length_cons] at hz htb hy ⊢
      refine AW.skip ?_
      refine AW.seq ?_
      refine AW.seq ?_
      refine AW.region ?_
      first | refine st V.ld ?_ | refine sq V.lo ?_
      refine st (V.add64 (by omega)) ?_
      refine st V.move ?_
      refine sn ?_
      refine AW.block ?_
      refine AW.loopL [23] (8 :: 9 :: 10 :: 11 :: 24 :: 25 :: 26 :: 27 :: 28 :: 29 :: 30 :: 31 :: 32 :: 33 :: 34 :: 35 :: 36 :: 37 :: 38 :: 39 :: 40 :: 41 :: 42 :: 43 :: 44 :: 45 :: []) (fun m vs M' H' => ∃ (j : Nat) (s1 : σ), vs = [.int .i64 (j : Int)] ∧ H' = J true s1 ∧ j + m = k + 1 ∧ Gd M' s1 ∧ ∀ s' b, sr (lsR (exA d n) f t0 ts k) s1 ((List.range (k + 1)).drop j) s' b → sr f s (lsV (exA d n) (t0 :: ts) k) s' b) (k + 1) (⟨0, s, rfl, rfl, by omega, gup hGd g, fun s' b h => lsR_eq _ _ _ _ _ _ _ _ h⟩) ?_
      intro m Ml Hl iL u23 hI u8 u9 u10 u11 u24 u25 u26 u27 u28 u29 u30 u31 u32 u33 u34 u35 u36 u37 u38 u39 u40 u41 u42 u43 u44 u45
      obtain ⟨j, s1, hv, hH, hj, hg, hw⟩ := hI
      subst hH
      cases hv
      refine sa ?_
      refine AW.seq ?_
      skip
      refine AW.region ?_
      refine st V.lss ?_
      refine sn ?_
      refine AW.seq ?_
      refine cond (fun h3 => ?_) (fun h3 => ?_)
      ·
        have k3 := bp h3
        refine AW.skip ?_
        refine AW.seq ?_
        refine AW.block ?_
        refine AW.seq ?_
        refine AW.region ?_
        refine st V.move ?_
        refine se (S.alloc ?_); intro b9
        refine se (S.store ?_)
        refine sn ?_
        refine AW.seq ?_
        refine AW.fz 0 fun Mj ij jj => ?_
        refine AW.region ?_
        refine se (S.alloc ?_); intro b10
        refine se (S.store ?_)
        refine sn ?_
        refine AW.seq ?_
        have hr := hA.drop 1 (by simp)
        refine AW.regionD mx true [0, 1, 2, 3, 4, 5, 6, 7] [[], [], [1], [], [], [3, 4], [], [0, 1, 2, 3, 4, 5, 6]] (by kernel_rfl) ?_
        refine D.p rfl rfl V.ld ?_
        refine D.p rfl rfl V.ld ?_
        refine D.p rfl rfl (V.slL (by omega) (by omega)) ?_
        refine D.p rfl rfl V.ld ?_
        refine D.p rfl rfl V.ld ?_
        refine D.p rfl rfl (V.sub64 (by omega)) ?_
        refine D.p rfl rfl V.fn ?_
        have e1 : ((k : Int) - (j : Int)) = ((k - j : Nat) : Int) := by omega
        refine D.e rfl rfl (S.call ?_)
        rw [e1]
        refine (lists85r_c d n hn6 hex z ts (by omega) (fun x hx => hT x (List.mem_cons_of_mem _ hx)) (by omega) (k - j) (by omega) Bool (fun _ b => .blk b10 (.cells #[.bool b] 4 (0, 0)) :: J true s1) (fun M _ => Gd M s1) (fun _ _ _ h g => hGd _ _ _ h g) (fun _ _ s' b => s' = true ∧ b = false) (.func (.func 109) #[] #[.pointer (some ⟨b10, 0, none⟩)]) inferInstance false _ Ad cd _ _ hd.upD (RdS.upI hr) (gup hGd hg) (fun M2 q s' l' A' c' _ _ _ _ hg2 => AV.func (fst := #[]) (cap := #[_]) ((some_c M2 _ b10 s' A' _ c').use fun v3 M3 H3 hM3 hh => ⟨true, false, hh.1, hh.2, ⟨rfl, rfl⟩, hGd _ _ _ hM3.out.toC hg2⟩))).use ?_
        rintro v3 N G iz ⟨s3, b3', rfl, rfl, hf3, hg3⟩
        obtain rfl := sr_some hf3
        refine D.nl ?_
        refine AW.seq ?_
        refine AW.seq ?_
        refine AW.region ?_
        first | refine st V.ld ?_ | refine sq V.lo ?_
        refine st V.not ?_
        refine sn ?_
        refine cond (fun h4 => ?_) (fun h4 => ?_)
        ·
          have k4 := bp h4
          refine AW.exit ?_
          repeat with_reducible refine thn_exit ?_
          refine inb_exit ?_
          refine AW.region ?_
          refine st (V.add64 (by omega)) ?_
          refine st V.move ?_
          refine sn ?_
          repeat with_reducible refine inb_normal ?_
          refine thn_normal ?_
          refine rnd (m - 1) (J true s1) (by omega) (List.sublist_cons_self _ _) ⟨j + 1, s1, by simp, rfl, by omega, gup hGd hg3, fun s' b h => hw s' b ?_⟩
          rw [range_drop _ _ (by omega)]; exact sr_on (lsR_none _ _ _ _ _ _ _ (by simpa using h4)) h
        ·
          have k4 := bp h4
          refine AW.skip ?_
          refine AW.seq ?_
          refine AW.drop (H' := J true s1) (List.sublist_cons_self _ _) ?_
          obtain ⟨bx, ox, hAx, ex⟩ := (hA.upI (M' := N)).at 0 (by simp)
          have ex : Mk N bx (ox + 0 * 1) (.int .i64 t0) := ex
          refine AW.regionD mx true [0, 1, 2, 3, 4, 5, 6, 7] [[], [], [1], [1, 2], [], [], [0, 1, 2, 3, 4, 5], [0, 1, 2, 3, 4, 5, 6]] (by kernel_rfl) ?_
          refine D.p rfl rfl V.ld ?_
          refine D.p rfl rfl V.ld ?_
          refine D.p rfl rfl (V.ib 0 rfl (by omega) hAx) ?_
          refine D.p rfl rfl V.ld ?_
          refine D.p rfl rfl V.ld ?_
          refine D.p rfl rfl V.fn ?_
          refine D.e rfl rfl (S.call ?_)
          have LN : LeT M N := inferInstance
          refine (hex σ J Gd hGd (fun s v s' b => sr (fun s l s' b => f s (v :: l) s' b) s (lsV (exA d n) ts (k - j)) s' b) (.func (.func 110) #[] #[.pointer (some ⟨b4, 0, none⟩), .pointer (some ⟨b5, 0, none⟩), .pointer (some ⟨b6, 0, none⟩), .pointer (some ⟨b9, 0, none⟩), .pointer (some ⟨b7, 0, none⟩)]) inferInstance t0 j (by omega) (hT t0 (List.mem_cons_self ..)) s1 _ Ad cd hd.upD (gup hGd hg3) (fun M2 q s' v A' c' hvb hvv hg' => AV.func (fst := #[]) (cap := #[_, _, _, _, _]) (lis2r_c d (exA d n) J Gd hGd f fy M2 b4 b5 b6 b9 b7 Ad cd A c t0 ts k j (by omega) (by omega) (by omega) (Mb.up (h := LeT.tr (inferInstance : LeT M4 N) q) j4) (Mb.up (h := LeT.tr (inferInstance : LeT M5 N) q) j5) (Mb.up (h := LeT.tr (inferInstance : LeT M6 N) q) j6) (Mb.up (h := LeT.tr (inferInstance : LeT Mj N) q) jj) (Mb.up (h := LeT.tr (inferInstance : LeT M7 N) q) j7) (hd.upD (h := LeT.tr LN q)) (hA.upI (h := LeT.tr LN q)) (CbQ.up (q := LeT.tr LN q) hy) (fun g fz _ s2 M3 q3 A3 c3 hr3 hg3 hy3 => lists85r_c d n hn6 hex z ts (by omega) (fun x hx => hT x (List.mem_cons_of_mem _ hx)) (by omega) (k - j) (by omega) σ J Gd hGd g fz inferInstance s2 M3 Ad cd A3 c3 (hd.upD (h := LeT.tr LN (LeT.tr q q3))) hr3 hg3 hy3) s' v A' c' hvv hvb hg'))).use ?_
          rintro v2 N2 G2 iz2 ⟨s2, b2', rfl, rfl, hf2, hg2⟩
          refine D.p rfl rfl V.assign ?_
          refine D.nl ?_
          refine AW.seq ?_
          refine AW.region ?_
          refine st V.move ?_
          refine st V.not ?_
          refine sn ?_
          refine cond (fun h5 => ?_) (fun h5 => ?_)
          ·
            have k5 := bp h5
            refine AW.seq ?_
            refine AW.region ?_
            refine st V.assign ?_
            refine sn ?_
            refine AW.ret ?_
            repeat with_reducible first | refine thn_ret ?_ | refine inb_ret ?_
            refine fin (Res.i1 rfl) ?_
            obtain rfl : b2' = false := by simpa using h5
            exact ⟨_, (by repeat first | exact List.Sublist.refl _ | apply List.Sublist.cons), _, _, rfl, rfl, hw _ _ (by rw [range_drop _ _ (by omega)]; exact sr_off hf2), gup hGd hg2⟩
          ·
            have k5 := bp h5
            refine AW.skip ?_
            refine AW.region ?_
            refine st (V.add64 (by omega)) ?_
            refine st V.move ?_
            refine sn ?_
            repeat with_reducible refine inb_normal ?_
            refine thn_normal ?_
            obtain rfl : b2' = true := by simpa using h5
            refine rnd (m - 1) _ (by omega) (List.Sublist.refl _) ⟨j + 1, s2, by simp, rfl, by omega, gup hGd hg2, fun s' b h => hw s' b ?_⟩
            rw [range_drop _ _ (by omega)]; exact sr_on hf2 h
      ·
        have k3 := bp h3
        refine AW.exit ?_
        repeat with_reducible refine thn_exit ?_
        refine inb_exit ?_
        refine AW.seq ?_
        refine AW.region ?_
        refine st V.assign ?_
        refine sn ?_
        refine AW.ret ?_
        repeat with_reducible first | refine thn_ret ?_ | refine inb_ret ?_
        refine fin (Res.i1 rfl) ?_
        exact ⟨_, (by repeat first | exact List.Sublist.refl _ | apply List.Sublist.cons), _, _, rfl, rfl, hw _ _ (by rw [List.drop_eq_nil_of_le (by simp; omega)]; exact sr_nil), gup hGd hg⟩
end Go.Proofs.YtieaiheejhmbfaaGreatDoor.ML
/- Walks of functions of the program, in the abstract layer. No conditions. -/
namespace Go.Proofs.YtieaiheejhmbfaaGreatDoor.ML
open Go.RowKit
set_option linter.unusedVariables false
set_option linter.unusedSimpArgs false
set_option maxHeartbeats 1600000 in
set_option synthInstance.maxHeartbeats 400000 in
set_option synthInstance.maxSize 100000 in
set_option maxRecDepth 100000 in
theorem ex59r_c (d : List DT) (hT : TypedP d) (hB : ∀ i (h : i < d.length), d[i].cons.length ≤ 1000 ∧ ∀ j (h' : j < d[i].cons.length), d[i].cons[j].fields.length ≤ 1000) (n : Nat) (hn6 : n ≤ 1000000) (hex : ∀ (σ : Type) (J : Bool → σ → Heap) (Gd : Mem → σ → Prop) (hGd : GdM Gd) (f : σ → VT → σ → Bool → Prop) (fy : Value) (_ : Fv fy) (t : Int) (k : Nat), k < n → (0 ≤ t ∧ t ≤ d.length) → ∀ (s : σ) (M : Mem) (Ad : Option Addr) (cd : Nat), RdS 2 (RdD M) Ad cd d → Gd M s → CbR Tryz.prog M fy J Gd f → AC Tryz.prog 59 [.slice Ad d.length cd, .int .i64 t, .int .i64 k, fy] M (J true s) fun r M' H' => ∃ s' b, r = .bool b ∧ H' = J b s' ∧ sr f s (exA d n t k) s' b ∧ Gd M' s') (σ : Type) (J : Bool → σ → Heap) (Gd : Mem → σ → Prop) (hGd : GdM Gd) (f : σ → VT → σ → Bool → Prop) (fy : Value) (_ : Fv fy) (t : Int) (k : Nat) (hk : k < n + 1) (ht : 0 ≤ t ∧ t ≤ d.length) (s : σ) (M : Mem) (Ad : Option Addr) (cd : Nat) (hd : RdS 2 (RdD M) Ad cd d) (g : Gd M s) (hy : CbR Tryz.prog M fy J Gd f) :
    AC Tryz.prog 59 [.slice Ad d.length cd, .int .i64 t, .int .i64 k, fy] M (J true s) fun r M' H' => ∃ s' b, r = .bool b ∧ H' = J b s' ∧ sr f s (exA d (n + 1) t k) s' b ∧ Gd M' s' := by
  refine AC.of (n := 59) Tryz.func59 rfl rfl ?_
  dsimp only [List.replicate, List.cons_append, List.nil_append]
  refine AW.seq ?_
  refine AW.region ?_
  refine se (S.boxM ?_); intro b7 M7 i7 j7
  refine st V.assign ?_
  refine sn ?_
  refine AW.seq ?_
  refine AW.seq ?_
  refine AW.region ?_
  refine st V.move ?_
  refine st V.eql ?_
  refine sn ?_
  refine cond (fun h1 => ?_) (fun h1 => ?_)
  ·
    have k1 := bp h1
    refine AW.seq ?_
    refine AW.region ?_
    refine st V.move ?_
    refine st V.gtr ?_
    refine st V.move ?_
    refine onoff true rfl rfl (fun h2 => ?_) (fun h2 => ?_)
    ·
      have k2 := bp h2
      first | refine st V.ld ?_ | refine sq V.lo ?_
      refine on rfl h2 ?_
      refine st (V.build (cells := [.int .i64 0, .int .i64 0, .slice none 0 0]) rfl) ?_
      refine on rfl h2 ?_
      refine se (S.callV ?_)
      refine (hy _ inferInstance s ⟨0, 0, []⟩ none 0 (.mk (by simp) (by simp)) RdS.nil (gup hGd g)).use ?_
      rintro v N G iz ⟨s5, b5', rfl, rfl, hf5, hg5⟩
      refine on rfl h2 ?_
      refine st V.move ?_
      refine onoff false rfl rfl (fun h3 => ?_) (fun h3 => ?_)
      ·
        have k3 := bp h3
        first | refine st V.ld ?_ | refine sq V.lo ?_
        refine on rfl h3 ?_
        refine st (V.build (cells := [.int .i64 1, .int .i64 0, .slice none 0 0]) rfl) ?_
        refine on rfl h3 ?_
        have h3c := h3
        subst h3c
        refine se (S.callV ?_)
        refine (hy _ inferInstance _ ⟨1, 0, []⟩ none 0 (.mk (by simp) (by simp)) RdS.nil (gup hGd hg5)).use ?_
        rintro v9 N9 G9 iz9 ⟨s6, b6', rfl, rfl, hf6, hg6⟩
        refine on rfl h2 ?_
        refine st (V.pT h3) ?_
        refine st (V.pF h2) ?_
        refine st V.assign ?_
        refine sn ?_
        refine AW.ret ?_
        repeat with_reducible first | refine thn_ret ?_ | refine inb_ret ?_
        refine fin (Res.i1 rfl) ?_
        have e0 : exA d (n + 1) t k = [⟨0, 0, []⟩, ⟨1, 0, []⟩] := by rw [exA, if_pos k1, if_pos (by omega)]
        rw [e0]
        exact ⟨_, (by repeat first | exact List.Sublist.refl _ | apply List.Sublist.cons), _, _, rfl, rfl, sr_on hf5 (sr_one hf6), gup hGd hg6⟩
      ·
        have k3 := bp h3
        refine off rfl h3 ?_
        refine off rfl h3 ?_
        refine on rfl h2 ?_
        refine st (V.pF h3) ?_
        refine st (V.pF h2) ?_
        refine st V.assign ?_
        refine sn ?_
        refine AW.ret ?_
        repeat with_reducible first | refine thn_ret ?_ | refine inb_ret ?_
        refine fin (Res.i1 rfl) ?_
        have e0 : exA d (n + 1) t k = [⟨0, 0, []⟩, ⟨1, 0, []⟩] := by rw [exA, if_pos k1, if_pos (by omega)]
        rw [e0]
        subst h3
        exact ⟨_, (by repeat first | exact List.Sublist.refl _ | apply List.Sublist.cons), _, _, rfl, rfl, sr_off hf5, gup hGd hg5⟩
    ·
      have k2 := bp h2
      refine off rfl h2 ?_
      refine off rfl h2 ?_
      refine off rfl h2 ?_
      refine offU rfl ?_
      refine offU rfl ?_
      refine offU rfl ?_
      refine off rfl h2 ?_
      refine st (V.pT h2) ?_
      refine st V.assign ?_
      refine sn ?_
      refine AW.ret ?_
      repeat with_reducible first | refine thn_ret ?_ | refine inb_ret ?_
      refine fin (Res.i1 rfl) ?_
      have e0 : exA d (n + 1) t k = [] := by rw [exA, if_pos k1, if_neg (by omega)]
      rw [e0]
      exact ⟨_, (by repeat first | exact List.Sublist.refl _ | apply List.Sublist.cons), _, _, rfl, rfl, sr_nil, gup hGd g⟩
  ·
    have k1 := bp h1
    refine AW.skip ?_
    refine AW.seq ?_
    refine AW.seq ?_
    obtain ⟨p, rfl⟩ : ∃ p : Nat, t = (p : Int) + 1 := ⟨(t - 1).toNat, by omega⟩
    have hp0 : p < d.length := by omega
    obtain ⟨b8, o8, hA8, i0, ib0, A8, c8, i1, i2⟩ := hd.at p hp0
    have hb8 := i2.bd
    have hbd := hd.bd
    refine AW.region ?_
    refine st V.move ?_
    refine st V.move ?_
    refine st (V.sub64 (by omega)) ?_
    refine st (V.ib p (by omega) hp0 hA8) ?_
    refine st V.fa ?_
    first | refine st V.ld ?_ | refine sq V.lo ?_
    refine st V.len ?_
    refine st V.move ?_
    refine sn ?_
    refine AW.block ?_
    refine AW.loopL [32] (8 :: 9 :: 10 :: 33 :: 34 :: 35 :: 36 :: 37 :: 38 :: 39 :: 40 :: 41 :: 42 :: 43 :: 44 :: 45 :: 46 :: 47 :: 48 :: 49 :: 50 :: 51 :: 52 :: 53 :: 54 :: 55 :: 56 :: 57 :: 58 :: 59 :: 60 :: 61 :: 62 :: []) (fun m vs M' H' => ∃ (i : Nat) (s1 : σ), vs = [.int .i64 (i : Int)] ∧ H' = J true s1 ∧ i + m = d[p].cons.length ∧ Gd M' s1 ∧ ∀ s' b, sr f s1 (consV (lsV (exA d n)) k (0 + i) (d[p].cons.drop i)) s' b → sr f s (exA d (n + 1) ((p : Int) + 1) k) s' b) (d[p].cons.length) (⟨0, s, rfl, rfl, by omega, gup hGd g, fun s' b h => by rw [exA, if_neg (by omega), consF_at d p hp0]; exact h⟩) ?_
    intro m Ml Hl iL u32 hI u8 u9 u10 u33 u34 u35 u36 u37 u38 u39 u40 u41 u42 u43 u44 u45 u46 u47 u48 u49 u50 u51 u52 u53 u54 u55 u56 u57 u58 u59 u60 u61 u62
    obtain ⟨i, s1, hv, hH, hi, hg, hw⟩ := hI
    subst hH
    cases hv
    refine sa ?_
    refine AW.seq ?_
    refine AW.region ?_
    refine st V.lss ?_
    refine sn ?_
    refine AW.seq ?_
    refine cond (fun h4 => ?_) (fun h4 => ?_)
    ·
      have k4 := bp h4
      refine AW.skip ?_
      refine AW.seq ?_
      refine AW.block ?_
      refine AW.seq ?_
      have z6 : i < d[p].cons.length := by omega
      obtain ⟨bq, oq, hAq, e0, eb, Aq, cq, q1, q2⟩ := (i2.upC (M' := Ml)).at i z6
      have hbf := q2.bd
      have hbf2 := (hB p hp0).2 i z6
      refine AW.region ?_
      refine st V.move ?_
      refine st (V.ib i rfl z6 hAq) ?_
      first | refine st V.ldA ?_ | refine sq V.loA ?_
      refine se (S.alloc ?_); intro b9
      refine se (S.alloc ?_); intro b10
      refine se (S.store ?_)
      refine se (S.storeA rfl ?_)
      refine sn ?_
      refine AW.block ?_
      refine AW.seq ?_
      refine AW.fz 0 fun Ma ia ja => ?_
      refine AW.fz 0 fun Mz iz jz => ?_
      refine AW.region ?_
      refine st V.faz ?_
      first | refine st V.ld ?_ | refine sq V.lo ?_
      refine st V.len ?_
      refine st V.eql ?_
      refine st V.assign ?_
      refine sn ?_
      refine cond (fun h5 => ?_) (fun h5 => ?_)
      ·
        have k5 := bp h5
        refine AW.seq ?_
        refine AW.region ?_
        refine st V.move ?_
        refine st V.eql ?_
        refine st V.move ?_
        refine onoff false rfl rfl (fun h6 => ?_) (fun h6 => ?_)
        ·
          have k6 := bp h6
          first | refine st V.ld ?_ | refine sq V.lo ?_
          refine on rfl h6 ?_
          first | refine st V.ld ?_ | refine sq V.lo ?_
          refine on rfl h6 ?_
          refine st (V.build (cells := [.int .i64 0, .int .i64 i, .slice none 0 0]) rfl) ?_
          refine on rfl h6 ?_
          refine se (S.callV ?_)
          refine (hy _ inferInstance s1 ⟨0, i, []⟩ none 0 (.mk (by simp) (by simp)) RdS.nil (gup hGd hg)).use ?_
          rintro v N G iz ⟨s7, b7', rfl, rfl, hf7, hg7⟩
          refine on rfl h6 ?_
          refine st V.not ?_
          refine st (V.pT h6) ?_
          refine sn ?_
          refine cond (fun h7 => ?_) (fun h7 => ?_)
          ·
            have k7 := bp h7
            refine AW.seq ?_
            refine AW.region ?_
            refine st V.assign ?_
            refine sn ?_
            refine AW.ret ?_
            repeat with_reducible first | refine thn_ret ?_ | refine inb_ret ?_
            refine fin (Res.i1 rfl) ?_
            obtain rfl : b7' = false := by simpa using h7
            exact ⟨_, (by repeat first | exact List.Sublist.refl _ | apply List.Sublist.cons), _, _, rfl, rfl, hw _ _ (consR_off z6 (by rw [conV_0 (by omega) (by omega)]; exact sr_off hf7)), gup hGd hg7⟩
          ·
            have k7 := bp h7
            refine AW.skip ?_
            refine AW.region ?_
            refine st (V.add64 (by omega)) ?_
            refine st V.move ?_
            refine sn ?_
            repeat with_reducible refine inb_normal ?_
            refine thn_normal ?_
            obtain rfl : b7' = true := by simpa using h7
            refine rnd (m - 1) _ (by omega) (List.Sublist.refl _) ⟨i + 1, s7, by simp, rfl, by omega, gup hGd hg7, fun s' b h => hw s' b (consR_on z6 (by rw [conV_0 (by omega) (by omega)]; exact sr_one hf7) h)⟩
        ·
          have k6 := bp h6
          refine off rfl h6 ?_
          refine off rfl h6 ?_
          refine off rfl h6 ?_
          refine off rfl h6 ?_
          refine st (V.pF h6) ?_
          refine sn ?_
          refine cond (fun h => by cases h) (fun _ => ?_)
          refine AW.skip ?_
          refine AW.region ?_
          refine st (V.add64 (by omega)) ?_
          refine st V.move ?_
          refine sn ?_
          repeat with_reducible refine inb_normal ?_
          refine thn_normal ?_
          refine rnd (m - 1) _ (by omega) (List.Sublist.refl _) ⟨i + 1, s1, by simp, rfl, by omega, gup hGd hg, fun s' b h => hw s' b (consR_on z6 (by rw [conV_1 (by omega) (by omega)]; exact sr_nil) h)⟩
      ·
        have k5 := bp h5
        refine AW.seq ?_
        refine AW.region ?_
        refine st V.move ?_
        refine st V.gtr ?_
        refine st V.assign ?_
        refine sn ?_
        refine cond (fun h9 => ?_) (fun h9 => ?_)
        ·
          have k9 := bp h9
          refine AW.seq ?_
          refine AW.region ?_
          refine st V.move ?_
          refine st V.faz ?_
          first | refine st V.ld ?_ | refine sq V.lo ?_
          refine st V.move ?_
          refine st (V.sub64 (by omega)) ?_
          refine st V.fn ?_
          have e1 : ((k : Int) - 1) = ((k - 1 : Nat) : Int) := by omega
          refine se (S.call ?_)
          rw [e1]
          have LN : LeT M Mz := inferInstance
          refine (lists85r_c d n hn6 hex (d[p].cons[i].fields.length + 1) d[p].cons[i].fields (by omega) (hT p hp0 i z6) (by omega) (k - 1) (by omega) σ J Gd hGd (fun s l s' b => f s ⟨0, i, l⟩ s' b) (.func (.func 86) #[] #[.pointer (some ⟨b7, 0, none⟩), .pointer (some ⟨b9, 0, none⟩)]) inferInstance s1 _ Ad cd Aq cq hd.upD q2.upI (gup hGd hg) (fun M2 q s' l' A' c' hl' hb' hr' _ hg' => AV.func (fst := #[]) (cap := #[_, _]) (exa1r_c J Gd hGd f fy M2 b7 b9 i (Mb.up (h := LeT.tr (inferInstance : LeT M7 Mz) q) j7) (Mb.up (h := q) jz) (CbR.up (q := LeT.tr LN q) hy) s' A' c' l' hr' (by omega) hb' hg'))).use ?_
          rintro v2 N2 G2 iz2 ⟨s2, b2', rfl, rfl, hf2, hg2⟩
          refine st V.not ?_
          refine sn ?_
          refine cond (fun h10 => ?_) (fun h10 => ?_)
          ·
            have k10 := bp h10
            refine AW.seq ?_
            refine AW.region ?_
            refine st V.assign ?_
            refine sn ?_
            refine AW.ret ?_
            repeat with_reducible first | refine thn_ret ?_ | refine inb_ret ?_
            refine fin (Res.i1 rfl) ?_
            obtain rfl : b2' = false := by simpa using h10
            exact ⟨_, (by repeat first | exact List.Sublist.refl _ | apply List.Sublist.cons), _, _, rfl, rfl, hw _ _ (consR_off z6 (conR_3 (by omega) (by omega) hf2)), gup hGd hg2⟩
          ·
            have k10 := bp h10
            refine AW.skip ?_
            refine AW.region ?_
            refine st (V.add64 (by omega)) ?_
            refine st V.move ?_
            refine sn ?_
            repeat with_reducible refine inb_normal ?_
            refine thn_normal ?_
            obtain rfl : b2' = true := by simpa using h10
            refine rnd (m - 1) _ (by omega) (List.Sublist.refl _) ⟨i + 1, s2, by simp, rfl, by omega, gup hGd hg2, fun s' b h => hw s' b (consR_on z6 (conR_3 (by omega) (by omega) hf2) h)⟩
        ·
          have k9 := bp h9
          refine AW.skip ?_
          refine AW.region ?_
          refine st (V.add64 (by omega)) ?_
          refine st V.move ?_
          refine sn ?_
          repeat with_reducible refine inb_normal ?_
          refine thn_normal ?_
          refine rnd (m - 1) _ (by omega) (List.Sublist.refl _) ⟨i + 1, s1, by simp, rfl, by omega, gup hGd hg, fun s' b h => hw s' b (consR_on z6 (by rw [conV_2 (by omega) (by omega)]; exact sr_nil) h)⟩
    ·
      have k4 := bp h4
      refine AW.exit ?_
      repeat with_reducible refine thn_exit ?_
      refine inb_exit ?_
      refine AW.seq ?_
      refine AW.region ?_
      refine st V.assign ?_
      refine sn ?_
      refine AW.ret ?_
      repeat with_reducible first | refine thn_ret ?_ | refine inb_ret ?_
      refine fin (Res.i1 rfl) ?_
      exact ⟨_, (by repeat first | exact List.Sublist.refl _ | apply List.Sublist.cons), _, _, rfl, rfl, hw _ _ (by rw [List.drop_eq_nil_of_le (by omega)]; exact sr_nil), gup hGd hg⟩
end Go.Proofs.YtieaiheejhmbfaaGreatDoor.ML
/- Visits told by a relation: for every number of cells. No conditions. -/
namespace Go.Proofs.YtieaiheejhmbfaaGreatDoor.ML
open Go.RowKit
set_option linter.unusedVariables false
set_option linter.unusedSimpArgs false
theorem exallr_c (d : List DT) (hT : TypedP d) (hB : BdD d) : ∀ n, n ≤ 1000001 → ∀ (σ : Type) (J : Bool → σ → Heap) (Gd : Mem → σ → Prop) (hGd : GdM Gd) (f : σ → VT → σ → Bool → Prop) (fy : Value) (_ : Fv fy) (t : Int) (k : Nat), k < n → (0 ≤ t ∧ t ≤ d.length) → ∀ (s : σ) (M : Mem) (Ad : Option Addr) (cd : Nat), RdS 2 (RdD M) Ad cd d → Gd M s → CbR Tryz.prog M fy J Gd f →
    AC Tryz.prog 59 [.slice Ad d.length cd, .int .i64 t, .int .i64 k, fy] M (J true s) fun r M' H' => ∃ s' b, r = .bool b ∧ H' = J b s' ∧ sr f s (exA d n t k) s' b ∧ Gd M' s'
  | 0, _, _, _, _, _, _, _, _, _, _, h, _ => by omega
  | n + 1, hn, σ, J, Gd, hGd, f, fy, hf, t, k, hk, ht => fun s M Ad cd hd g hy => ex59r_c d hT hB n (by omega) (exallr_c d hT hB n (by omega)) σ J Gd hGd f fy hf t k hk ht s M Ad cd hd g hy
theorem exVr_c (d : List DT) (hT : TypedP d) (hB : BdD d) {σ : Type} (J : Bool → σ → Heap) (Gd : Mem → σ → Prop) (hGd : GdM Gd) (f : σ → VT → σ → Bool → Prop) (fy : Value) [Fv fy] (t : Int) (k : Nat) (hk : k ≤ 1000000) (ht : 0 ≤ t ∧ t ≤ d.length) (s : σ) (M : Mem) (Ad : Option Addr) (cd : Nat) (hd : RdS 2 (RdD M) Ad cd d) (g : Gd M s) (hy : CbR Tryz.prog M fy J Gd f) :
    AC Tryz.prog 59 [.slice Ad d.length cd, .int .i64 t, .int .i64 k, fy] M (J true s) fun r M' H' => ∃ s' b, r = .bool b ∧ H' = J b s' ∧ sr f s (exV d t k) s' b ∧ Gd M' s' :=
  exallr_c d hT hB (k + 1) (by omega) σ J Gd hGd f fy inferInstance t k (by omega) ht s M Ad cd hd g hy
end Go.Proofs.YtieaiheejhmbfaaGreatDoor.ML
/- Walks of functions of the program, in the abstract layer. No conditions. -/
namespace Go.Proofs.YtieaiheejhmbfaaGreatDoor.ML
open Go.RowKit
set_option linter.unusedVariables false
set_option linter.unusedSimpArgs false
set_option maxHeartbeats 1600000 in
set_option synthInstance.maxHeartbeats 400000 in
set_option synthInstance.maxSize 100000 in
set_option maxRecDepth 100000 in
theorem sizedr_c {σ : Type} (J : Bool → σ → Heap) (Gd : Mem → σ → Prop) (hGd : GdM Gd) (f : σ → VT → σ → Bool → Prop) (fy : Value) [Fv fy] (d : List DT) (hT : TypedP d) (hB : BdD d) (t : Int) (ht : 0 ≤ t ∧ t ≤ d.length) (k : Nat) (hk : k ≤ 1000000) (s : σ) (M : Mem) (Ad : Option Addr) (cd b1 b2 b3 : Nat) (hd : RdS 2 (RdD M) Ad cd d) (q1 : Mb M b1 [.slice Ad d.length cd]) (q2 : Mb M b2 [.int .i64 t]) (q3 : Mb M b3 [.int .i64 k]) (g : Gd M s) (hy : CbR Tryz.prog M fy J Gd f) :
    AC Tryz.prog 58 [fy, .pointer (some ⟨b1, 0, none⟩), .pointer (some ⟨b2, 0, none⟩), .pointer (some ⟨b3, 0, none⟩)] M (J true s) fun r M' H' => r = .tuple #[] ∧ ∃ s' b, H' = J b s' ∧ sr f s (exV d t k) s' b ∧ Gd M' s' := by
  refine AC.of (n := 6) Tryz.func58 rfl rfl ?_
  dsimp only [List.replicate, List.cons_append, List.nil_append]
  refine AW.region ?_
  first | refine st V.ld ?_ | refine sq V.lo ?_
  first | refine st V.ld ?_ | refine sq V.lo ?_
  first | refine st V.ld ?_ | refine sq V.lo ?_
  refine st V.move ?_
  refine se (S.call ?_)
  refine (exVr_c d hT hB J Gd hGd f fy t k hk ht s _ Ad cd hd (gup hGd g) hy).use ?_
  rintro v N G iz ⟨s1, b1', rfl, rfl, hf1, hg1⟩
  refine sn ?_
  repeat with_reducible refine inb_normal ?_
  refine fin0 (Res.zero rfl) ?_
  exact ⟨_, (by repeat first | exact List.Sublist.refl _ | apply List.Sublist.cons), rfl, _, _, rfl, hf1, gup hGd hg1⟩
set_option maxHeartbeats 1600000 in
set_option synthInstance.maxHeartbeats 400000 in
set_option synthInstance.maxSize 100000 in
set_option maxRecDepth 100000 in
theorem all1r_c {σ : Type} (J : Bool → σ → Heap) (Gd : Mem → σ → Prop) (hGd : GdM Gd) (f : σ → VT → σ → Bool → Prop) (fy : Value) [Fv fy] (d : List DT) (t most : Int) (hm : most ≤ 1000000) (s : σ) (M : Mem) (Ad : Option Addr) (cd b1 b2 b3 : Nat) (hd : RdS 2 (RdD M) Ad cd d) (q1 : Mb M b1 [.slice Ad d.length cd]) (q2 : Mb M b2 [.int .i64 t]) (q3 : Mb M b3 [.int .i64 most]) (g : Gd M s) (hy : CbR Tryz.prog M fy J Gd f) :
    AC Tryz.prog 56 [fy, .pointer (some ⟨b1, 0, none⟩), .pointer (some ⟨b2, 0, none⟩), .pointer (some ⟨b3, 0, none⟩)] M (J true s) fun r M' H' => r = .tuple #[] ∧ ∃ s' b, H' = J b s' ∧ sr f s (allV d t most) s' b ∧ Gd M' s' := by
  refine AC.ofMc (n := 29) Tryz.func56 rfl rfl ?_
  dsimp only [List.replicate, List.cons_append, List.nil_append]
  refine AW.seq ?_
  refine AW.region ?_
  refine se (S.boxM ?_); intro b4 M4 i4 j4
  refine sn ?_
  refine AW.seq ?_
  refine AW.seq ?_
  refine AW.region ?_
  first | refine st V.ld ?_ | refine sq V.lo ?_
  first | refine st V.ld ?_ | refine sq V.lo ?_
  refine se (S.call ?_)
  refine (table_c _ _ Ad cd d hd.upD t).use ?_
  rintro v1 N1 G1 iz1 ⟨rfl, hG⟩
  obtain rfl := hG.symm
  refine st V.neq ?_
  refine st V.move ?_
  refine onoff true rfl rfl (fun h1 => ?_) (fun h1 => ?_)
  ·
    have k1 := bp h1
    first | refine st V.ld ?_ | refine sq V.lo ?_
    refine on rfl h1 ?_
    refine st (V.lss) ?_
    refine st (V.pF h1) ?_
    refine sn ?_
    refine cond (fun h2 => ?_) (fun h2 => ?_)
    ·
      have k2 := bp h2
      refine AW.ret ?_
      repeat with_reducible first | refine thn_ret ?_ | refine inb_ret ?_
      refine finMc (fun _ => Res.zero rfl) ?_
      have e0 : allV d t most = [] := by rw [allV, if_pos (.inr (by omega))]
      refine ⟨_, List.Sublist.refl _, fun _ hle => ⟨rfl, s, true, rfl, by rw [e0]; exact sr_nil, hGd _ _ _ hle (gup hGd g)⟩⟩
    ·
      have k2 := bp h2
      refine AW.skip ?_
      refine AW.seq ?_
      obtain ⟨hc0, ht⟩ := tableF_ok k1
      have hT := (checkF_ok hc0).2.2.2.1
      obtain ⟨hB, hdl⟩ := checkF_bd hc0
      have hlb := limF_bd d t (most := most) (by omega)
      have hall : allV d t most = (List.range ((limF d t most).toNat + 1)).flatMap fun k => exV d t k := by rw [allV, if_neg (by intro h; rcases h with h | h; exact h k1; omega)]
      refine AW.region ?_
      first | refine st V.ld ?_ | refine sq V.lo ?_
      first | refine st V.ld ?_ | refine sq V.lo ?_
      first | refine st V.ld ?_ | refine sq V.lo ?_
      refine se (S.call ?_)
      refine (limit_c d hT (by omega) most (by omega) hm t ht _ _ Ad cd hd.upD).use ?_
      rintro v2 N2 G2 iz2 ⟨rfl, hG⟩
      obtain rfl := hG.symm
      refine st (V.add64 (by omega)) ?_
      refine st V.move ?_
      refine sn ?_
      refine AW.block ?_
      refine AW.loopL [21] (5 :: 6 :: 22 :: 23 :: 24 :: 25 :: 32 :: []) (fun m vs M' H' => ∃ (k : Nat) (s1 : σ), vs = [.int .i64 (k : Int)] ∧ H' = J true s1 ∧ k + m = (limF d t most).toNat + 1 ∧ Gd M' s1 ∧ ∀ s' b, sr (fun s k s' b => sr f s (exV d t k) s' b) s1 ((List.range ((limF d t most).toNat + 1)).drop k) s' b → sr f s (allV d t most) s' b) ((limF d t most).toNat + 1) (⟨0, s, rfl, rfl, by omega, gup hGd g, fun s' b h => by rw [hall]; exact sr_flat _ _ _ _ _ h⟩) ?_
      intro m Ml Hl iL u21 hI u5 u6 u22 u23 u24 u25 u32
      obtain ⟨k, s1, hv, hH, hk, hg, hw⟩ := hI
      subst hH
      cases hv
      refine sa ?_
      refine AW.seq ?_
      refine AW.region ?_
      refine st V.lss ?_
      refine sn ?_
      refine AW.seq ?_
      refine cond (fun h3 => ?_) (fun h3 => ?_)
      ·
        have k3 := bp h3
        refine AW.skip ?_
        refine AW.seq ?_
        refine AW.block ?_
        refine AW.seq ?_
        refine AW.region ?_
        refine st V.move ?_
        refine se (S.alloc ?_); intro b5
        refine se (S.store ?_)
        refine sn ?_
        refine AW.seq ?_
        refine AW.fz 0 fun Mk ik jk => ?_
        refine AW.region ?_
        refine st V.fn ?_
        refine st V.assign ?_
        refine sn ?_
        refine AW.seq ?_
        refine AW.region ?_
        refine st V.move ?_
        refine sn ?_
        refine AW.block ?_
        refine AW.rangeF (f := 58) (fst := #[]) (cap := #[.pointer (some ⟨b1, 0, none⟩), .pointer (some ⟨b2, 0, none⟩), .pointer (some ⟨b5, 0, none⟩)]) Ev.out ?_
        intro l r Mr iR hrt hrs hrn hrp hra hrb
        have hrr : ({ r with state := .ready, pending := none } : Loop) = r := by cases r; simp only at hrs hrn; subst hrs; subst hrn; rfl
        have LM : LeT M Mr := inferInstance
        have cb : CbR Tryz.prog Mr (.func (.yield l) #[] #[]) (fun (b : Bool) s => .blk l (.loop (if b then { r with state := .ready, pending := none } else { r with state := .done, pending := some .ret })) :: J b s) Gd f := by
          intro M2 q s2 v Av cv hvb hvv hg2
          have L2 : LeT M M2 := LeT.tr LM q
          have j4' : Mb M2 b4 [fy] := Mb.up (h := LeT.tr (inferInstance : LeT M4 Mr) q) j4
          refine AV.heqI (H' := .blk l (.loop r) :: J true s2) (by simp [hrr]) ?_
          refine AV.yield hrt hrs (by rw [hrp]; rfl) ?_
          rw [hra, hrb, hrp]
          refine sy ?_
          refine AW.region ?_
          refine se (S.alloc ?_); intro b7
          refine se (S.storeA rfl ?_)
          refine sn ?_
          refine apost_1 ?_
          refine AW.fz 1 fun Mv iv jv => ?_
          refine AW.block ?_
          refine AW.seq ?_
          refine AW.regionD mx true [0, 1, 2, 3, 4] [[], [], [1], [0, 1, 2], [0, 1, 2, 3]] (by kernel_rfl) ?_
          refine D.p rfl rfl V.ld ?_
          refine D.p rfl rfl V.ldA ?_
          refine D.e rfl rfl (S.call ?_)
          refine (cloned_c (SizeOf.sizeOf v + 1) v (by omega) hvb _ _ Av cv (VV.up hvv)).use ?_
          rintro vc Nc Gc izc ⟨A9, c9, rfl, hvc, hG⟩
          obtain rfl := hG.symm
          refine D.e rfl rfl (S.callV ?_)
          have L3 : LeT M Nc := inferInstance
          have L5 : LeT M2 Nc := inferInstance
          refine (AV.frameC (fun v9 M8 M9 H9 hle hh => by obtain ⟨s', b, e1, e2, e3, e4⟩ := hh; exact ⟨s', b, e1, e2, e3, hGd _ _ _ hle e4⟩) (fun M3 q3 => hy M3 (LeT.tr L3 q3) s2 v A9 c9 hvb (VV.up (hm := q3) hvc) (gup hGd (h := LeT.tr L5 q3) hg2))).use ?_
          rintro vq Nq Gq izq ⟨H2, hG1, s3, b3', rfl, hG2, hf3, hg3⟩
          subst hG2
          subst hG1
          refine D.p rfl rfl V.not ?_
          refine D.nl ?_
          refine cond (fun h4 => ?_) (fun h4 => ?_)
          ·
            have k4 := bp h4
            refine AW.ret ?_
            repeat with_reducible first | refine thn_ret ?_ | refine inb_ret ?_
            refine rpost_r ?_
            obtain rfl : b3' = false := by simpa using h4
            refine ⟨s3, false, rfl, ?_, hf3, gup hGd hg3⟩
            simp [hra, hrb, hrp]
          ·
            have k4 := bp h4
            refine AW.skip ?_
            repeat with_reducible refine inb_normal ?_
            refine rpost_n ?_
            obtain rfl : b3' = true := by simpa using h4
            refine ⟨s3, true, rfl, ?_, hf3, gup hGd hg3⟩
            simp [hra, hrb, hrp]
        refine AC.heqI (H' := (fun (b : Bool) s => .blk l (.loop (if b then { r with state := .ready, pending := none } else { r with state := .done, pending := some .ret })) :: J b s) true s1) (by simp [hrr]) ?_
        refine (sizedr_c (fun (b : Bool) s => .blk l (.loop (if b then { r with state := .ready, pending := none } else { r with state := .done, pending := some .ret })) :: J b s) Gd hGd f (.func (.yield l) #[] #[]) d hT hB t ht k (by omega) s1 Mr Ad cd b1 b2 b5 hd.upD (Mb.up (M := M) q1) (Mb.up (M := M) q2) inferInstance (gup hGd hg) cb).use ?_
        rintro vz Nz Gz izz ⟨rfl, s4, b4', rfl, hf4, hg4⟩
        refine bcase b4' (fun hp => ?_) (fun hp => ?_)
        ·
          subst hp
          refine RQ.heq (H' := .blk l (.loop { r with state := .ready, pending := none }) :: J true s4) (by simp) ?_
          refine rangeQ_n ?_
          refine AW.region ?_
          refine st (V.add64 (by omega)) ?_
          refine st V.move ?_
          refine sn ?_
          repeat with_reducible refine inb_normal ?_
          refine thn_normal ?_
          refine rnd (m - 1) _ (by omega) (List.Sublist.refl _) ⟨k + 1, s4, by simp, rfl, by omega, gup hGd hg4, fun s' b h => hw s' b (by rw [range_drop _ _ (by omega)]; exact sr_on hf4 h)⟩
        ·
          subst hp
          refine RQ.heq (H' := .blk l (.loop { r with state := .done, pending := some .ret }) :: J false s4) (by simp) ?_
          refine rangeQ_c ?_
          refine AW.ret ?_
          repeat with_reducible first | refine thn_ret ?_ | refine inb_ret ?_
          refine finMc (fun _ => Res.zero rfl) ?_
          refine ⟨_, List.Sublist.refl _, fun _ hle => ⟨rfl, s4, false, rfl, hw _ _ (by rw [range_drop _ _ (by omega)]; exact sr_off hf4), hGd _ _ _ hle (gup hGd hg4)⟩⟩
      ·
        have k3 := bp h3
        refine AW.exit ?_
        repeat with_reducible refine thn_exit ?_
        refine inb_exit ?_
        repeat with_reducible refine inb_normal ?_
        refine fin0Mc (fun _ => Res.zero rfl) ?_
        refine ⟨_, List.Sublist.refl _, fun _ hle => ⟨rfl, s1, true, rfl, hw _ _ (by rw [List.drop_eq_nil_of_le (by simp; omega)]; exact sr_nil), hGd _ _ _ hle (gup hGd hg)⟩⟩
  ·
    have k1 := bp h1
    refine off rfl h1 ?_
    refine st (V.pT h1) ?_
    refine sn ?_
    refine cond (fun _ => ?_) (fun h => by cases h)
    refine AW.ret ?_
    repeat with_reducible first | refine thn_ret ?_ | refine inb_ret ?_
    refine finMc (fun _ => Res.zero rfl) ?_
    have e0 : allV d t most = [] := by rw [allV, if_pos (.inl (by first | exact k1 | omega))]
    refine ⟨_, List.Sublist.refl _, fun _ hle => ⟨rfl, s, true, rfl, by rw [e0]; exact sr_nil, hGd _ _ _ hle (gup hGd g)⟩⟩
end Go.Proofs.YtieaiheejhmbfaaGreatDoor.ML
