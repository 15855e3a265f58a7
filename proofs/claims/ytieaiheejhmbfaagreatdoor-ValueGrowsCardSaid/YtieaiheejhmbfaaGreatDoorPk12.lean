/- The abstract layer: function values, ranges over functions. No conditions. -/
import Derived.Test.YtieaiheejhmbfaaGreatDoorPk3
import Derived.RangeFuncNested
import Derived.RangeFuncLeaves
namespace Go.Proofs.YtieaiheejhmbfaaGreatDoor.ML
open Go.RowKit
set_option linter.unusedVariables false
set_option linter.unusedSimpArgs false
section
variable {P : Program} {ro : RO} {ops : Array Oper} {Q : Post} {rest : List Oper} {tm : Tm} {F : Value → Tm} {M : Mem} {H H' : Heap} {K : Tm → Mem → Heap → Prop} {gd : Option (Nat × Bool)}
/-! ### A function whose body holds ranges over functions -/
def bodyPM (P : Program) (fn : Func) (R : Value → Mem → Heap → Prop) : Post
  | .normal, tm, M, H | .ret, tm, M, H => ∃ v, (∀ M', Res P fn tm M' H v) ∧ ∃ H3, List.Sublist H3 H ∧ ∀ M', R v M' H3
  | _, _, _, _ => False
theorem leavesM {F : Fence} {n : Nat} {fn : Func} {tmps : Array Value} {R : Ending → World → Prop} : ∀ (ds : List Deferred) (w : World), ds.Nodup → (∀ d ∈ ds, ∃ D, d = markD D ∧ w.heap[D]? = some (.deferred (some []))) →
    ∃ w', w'.os = w.os ∧ w'.tape = w.tape ∧ w'.output = w.output ∧ w'.heap.size = w.heap.size ∧ (∀ k, markD k ∉ ds → w'.heap[k]? = w.heap[k]?) ∧ (LeavesIn F n P fn tmps R [] .returning w' → LeavesInM F n P fn tmps R ds .returning w)
  | [], w, _, _ => ⟨w, rfl, rfl, rfl, rfl, fun _ _ => rfl, fun h => h⟩
  | d :: ds, w, hn, hd => by
    obtain ⟨D, rfl, hD⟩ := hd d (List.mem_cons_self ..)
    rw [List.nodup_cons] at hn
    obtain ⟨w', h1, h2, h3, h4, h5, h6⟩ := leavesM (F := F) (n := n) (fn := fn) (tmps := tmps) (R := R) ds (w.putObj D (.deferred none)) hn.2 (fun d he => by
      obtain ⟨D', rfl, hD'⟩ := hd d (List.mem_cons_of_mem _ he)
      refine ⟨D', rfl, ?_⟩
      rw [World.putObj_heap_other (fun e => hn.1 (by rw [← e]; exact he))]; exact hD')
    refine ⟨w', h1, h2, h3, by rw [h4, World.putObj_size], fun k hk => ?_, fun hl => ⟨fun e => (by cases e), .inl ⟨D, _, rfl, run_takeDeferred hD, h6 hl⟩⟩⟩
    rw [h5 k (fun e => hk (List.mem_cons_of_mem _ e)), World.putObj_heap_other (fun e => hk (by rw [e]; exact List.mem_cons_self ..))]
open Classical in
theorem AC.ofM {f : Nat} {fn : Func} {c : Code} {as : List Value} {n : Nat} {R : Value → Mem → Heap → Prop} (hf : P.funcs[f]? = some fn) (hb : fn.body = some c) (hn : fn.ntmps - as.length = n)
    (h : AW P ⟨none, false⟩ c (bodyPM P fn R) (as ++ List.replicate n undef) M H) : AC P f as M H R := fun g w hS => by
  refine callsIn_of_wp_marks hf hb trivial ?_ rfl
  have ha : ({ tmps := as.toArray ++ Array.replicate (fn.ntmps - as.toArray.size) undef, defers := [] } : Act) = act [] (as ++ List.replicate n undef) := by
    simp [act, hn]
  rw [ha]
  refine wpIn_mono (h ⟨w, []⟩ w hS.fresh) fun e a w' hl => ?_
  obtain ⟨ds, tm', M', H', hfx, rfl, hM, hS', hq⟩ := hl
  have fin : (∃ v, (∀ M', Res P fn tm' M' H' v) ∧ ∃ H3, List.Sublist H3 H' ∧ ∀ M', R v M' H3) → LeavesInM (fw none) 0 P fn (act ds tm').tmps (fun e w' => ∃ v M' H', e = .returned v ∧ M.le M' ∧ St g M' H' w' ∧ R v M' H') (act ds tm').defers .returning w' := by
    rintro ⟨v, hr, H3, hs, hR⟩
    have hdk := hS'.dsok
    obtain ⟨w2, h1, h2, h3, h4, h5, h6⟩ := leavesM (P := P) (F := fw none) (n := 0) (fn := fn) (tmps := (act ds tm').tmps) (R := fun e w' => ∃ v M' H', e = .returned v ∧ M.le M' ∧ St g M' H' w' ∧ R v M' H') ds w' hdk.1 (fun d hd => by
      obtain ⟨D, e, _, hm⟩ := hdk.2 d hd
      exact ⟨D, e, hS'.mem _ _ hm⟩)
    refine h6 ?_
    have hmark : ∀ k, markD k ∈ ds → M' k = some (.deferred (some [])) ∧ w.heap.size ≤ k := fun k hk => by
      obtain ⟨D, e, h7, h8⟩ := hdk.2 _ hk
      cases e; exact ⟨h8, h7⟩
    obtain ⟨M2, hM2⟩ : ∃ M2 : Mem, M2 = fun k => if markD k ∈ ds then none else M' k := ⟨_, rfl⟩
    have hle : M.le M2 := fun b o hb => by
      rw [hM2]
      show (if markD b ∈ ds then none else M' b) = some o
      rw [if_neg]
      · exact hM b o hb
      · intro hm; have := hS.mlt hb; have := (hmark b hm).2; omega
    have hS2 : St ⟨w, []⟩ M2 H' w2 := by
      refine ⟨h1.trans hS'.os, h2.trans hS'.tape, h3.trans hS'.output, by rw [h4]; exact hS'.size, fun b o hb => ?_, fun e he => Ent.ok_of (hS'.own e he) fun b hb => h5 b fun hm => ?_, hS'.nodup, fun b hb => ?_, .nil⟩
      · rw [hM2] at hb
        by_cases hm : markD b ∈ ds
        · simp [hm] at hb
        · simp only [hm, if_false] at hb; rw [h5 b hm]; exact hS'.mem b o hb
      · have := hS'.apart b (List.mem_flatMap.2 ⟨e, he, hb⟩)
        rw [(hmark b hm).1] at this; cases this
      · rw [hM2]
        by_cases hm : markD b ∈ ds
        · simp [hm]
        · simp only [hm, if_false]; exact hS'.apart b hb
    exact ⟨v, hr M2 _ w2 hS2, v, M2, H3, rfl, hle, (hS.onto hS2 hle).sub hs, hR M2⟩
  cases e with
  | normal => exact fin hq
  | ret => exact fin hq
  | _ => exact hq.elim
/-! ### Function values -/
/-- A call of a function value. -/
def AV (P : Program) (fv : Value) (as : List Value) (M : Mem) (H : Heap) (R : Value → Mem → Heap → Prop) : Prop :=
  ∀ (ro : RO) (x : Operand) (args : Array Operand) (ts : Array TypeId) (d : Option Tmp) (ty : TypeId) (pos : String) (aft : Array Edge) (gd : Option (Nat × Bool)) (tm : Tm) (K : Tm → Mem → Heap → Prop), ev tm x = fv → args.toList.map (ev tm) = as →
    (∀ v M' H', M.le M' → R v M' H' → K (putL tm d v) M' H') → AS P ro ⟨d, .call ⟨.value x, args, ts⟩, ty, pos, aft, gd⟩ tm M H K
theorem AV.func {f : Nat} {fst cap : Array Value} {as : List Value} {R : Value → Mem → Heap → Prop} [Fn P f] (h : AC P f (fst.toList ++ as ++ cap.toList) M H R) : AV P (.func (.func f) fst cap) as M H R :=
  fun ro x args ts d ty pos aft gd tm K hx ha hK => AS.call hx (by rw [ha]) (h.mono fun v M' H' hM hr => hK v M' H' hM hr)
theorem AV.mono {fv : Value} {as : List Value} {R R' : Value → Mem → Heap → Prop} (h : AV P fv as M H R) (hr : ∀ v M' H', M.le M' → R v M' H' → R' v M' H') : AV P fv as M H R' :=
  fun ro x args ts d ty pos aft gd tm K hx ha hK => h ro x args ts d ty pos aft gd tm K hx ha fun v M' H' hM hv => hK v M' H' hM (hr v M' H' hM hv)
theorem AV.perm {fv : Value} {as : List Value} {R : Value → Mem → Heap → Prop} (hp : H'.Perm H) (h : AV P fv as M H' R) : AV P fv as M H R :=
  fun ro x args ts d ty pos aft gd tm K hx ha hK g w hS => h ro x args ts d ty pos aft gd tm K hx ha hK g w (hS.perm hp)
/-- What comes out may be laid in another order. -/
theorem AV.permOut {fv : Value} {as : List Value} {R R' : Value → Mem → Heap → Prop} (h : AV P fv as M H R) (hr : ∀ v M' H', M.le M' → R v M' H' → ∃ H2, H2.Perm H' ∧ R' v M' H2) : AV P fv as M H R' :=
  fun ro x args ts d ty pos aft gd tm K hx ha hK g w hS => by
    have := h ro x args ts d ty pos aft gd tm (fun tm1 M1 H1 => ∃ v H2, tm1 = putL tm d v ∧ H2.Perm H1 ∧ M.le M1 ∧ R' v M1 H2) hx ha (fun v M' H' hM hv => by
      obtain ⟨H2, hp, h2⟩ := hr v M' H' hM hv
      exact ⟨v, H2, rfl, hp, hM, h2⟩) g w hS
    refine opIn_mono (fun a w' hh => ?_) (fun _ _ _ h => h) this
    obtain ⟨tm', M', H', rfl, hM, hS', v, H2, rfl, hp, hM2, hR⟩ := hh
    exact ⟨_, M', H2, rfl, hM, hS'.perm hp, hK v M' H2 hM2 hR⟩
/-- A round of a loop, told by its record. -/
def rpost (l : Nat) (r : Loop) (R : Value → Mem → Heap → Prop) : Post := fun e tm M H => ∃ H2, H = .blk l (.loop { r with state := .busy }) :: H2 ∧
  (match e with
   | .normal => R (.bool true) M (.blk l (.loop { r with state := .ready, pending := none }) :: H2)
   | .ret => R (.bool false) M (.blk l (.loop { r with state := .done, pending := some .ret }) :: H2)
   | .exit id => R (.bool false) M (.blk l (.loop { r with state := .done, pending := some (.exit id) }) :: H2)
   | _ => False)
def apost (l : Nat) (r : Loop) (body : Code) (P : Program) (R : Value → Mem → Heap → Prop) : Post
  | .normal => fun tm M H => ∃ H2, (Ent.blk l (.loop r) :: H2).Perm H ∧ AW P ⟨some l, true⟩ body (rpost l r R) tm M (.blk l (.loop { r with state := .busy }) :: H2)
  | _ => fun _ _ _ => False
theorem St.putB {g : GW} {w : World} {b : Nat} {o : Obj} (o' : Obj) (hS : St g M (.blk b o :: H) w) : St g M (.blk b o' :: H) (w.putObj b o') := by
  have hb : w.heap[b]? = some o := hS.own _ (List.mem_cons_self ..)
  exact hS.put rfl rfl rfl (by simp) (World.putObj_heap_same (Array.getElem?_eq_some_iff.1 hb).1) (fun k _ hne => World.putObj_heap_other hne)
theorem setAll_fold : ∀ (ps : List Nat) (as : List Value) (tm : Tm), (ps.zip as).foldl (fun (tmps : Array Value) (x : Nat × Value) => tmps.setIfInBounds x.1 x.2) tm.toArray = (setAll tm ps as).toArray
  | [], as, tm => by cases as <;> rfl
  | p :: ps, [], tm => rfl
  | p :: ps, a :: as, tm => by rw [List.zip_cons_cons, List.foldl_cons, setAll, ← setAll_fold]; simp
theorem AV.yield {l : Nat} {r : Loop} {tm0 : Tm} {as : List Value} {R : Value → Mem → Heap → Prop} (ht : r.tmps = tm0.toArray) (hst : r.state = .ready) (hn : as.length = r.params.size)
    (h : AW P ⟨some l, true⟩ r.assign (apost l r r.body P R) (setAll tm0 r.params.toList as) M (.blk l (.loop r) :: H)) : AV P (.func (.yield l) #[] #[]) as M (.blk l (.loop r) :: H) R :=
  fun ro x args ts d ty pos aft gd tm K hx ha hK g w hS => by
    refine ⟨fun _ _ => trivial, ?_⟩
    have hl : w.heap[l]? = some (.loop r) := hS.own _ (List.mem_cons_self ..)
    have hm : args.map (ev tm) = as.toArray := Array.ext' (by rw [Array.toList_map, ha])
    have hy := run_yield (P := P) (args := as.toArray) hl (by simpa using hn)
    have hrun : (execOp (ev tm) ⟨d, .call ⟨.value x, args, ts⟩, ty, pos, aft, gd⟩).run P w = .ok (.round l r.fn (setAll tm0 r.params.toList as).toArray r.assign r.body) w := by
      have hz : (r.params.zip as.toArray).foldl (fun tmps (x : Nat × Value) => tmps.setIfInBounds x.1 x.2) r.tmps = (setAll tm0 r.params.toList as).toArray := by
        rw [ht, ← setAll_fold, ← Array.foldl_toList, Array.toList_zip]
      simp only [execOp, resolve, hx, Deferred.ofValue, Sem.run_bind, Sem.run_pure, Result.andThen_ok, invoke, hm]
      rw [← hz]
      simpa using hy
    rw [show (fw ro.ro).round = ro.ro from rfl, semAt_exec rfl, ev_act, hrun, Oper.uponIn_round]
    refine ⟨fun hd => by simp [fw, Fence.wide] at hd, roundIn_of_wpIn trivial ?_⟩
    have hA := h ⟨w, []⟩ w hS.fresh
    refine wpIn_n (ro := some l) (n := 0) (wpIn_mono hA fun e a w1 hl1 => ?_)
    obtain ⟨ds1, tm1, M1, H1, hf1, rfl, hM1, hS1, hq1⟩ := hl1
    cases e with
    | normal =>
      obtain ⟨H2, hpm, hB⟩ := hq1
      replace hS1 := hS1.perm hpm
      refine ⟨_, run_beginRound (hS1.own _ (List.mem_cons_self ..)) hst, ?_⟩
      refine wpIn_n (ro := some l) (n := 0) (wpIn_mono (hB ⟨w, ds1⟩ _ (hS1.putB _)) fun e a w2 hl2 => ?_)
      obtain ⟨ds2, tm2, M2, H3, hf2, rfl, hM2, hS2, H4, rfl, hq2⟩ := hl2
      have hr2 : w2.heap[l]? = some (.loop { r with state := .busy }) := hS2.own _ (List.mem_cons_self ..)
      have hle := hM1.trans hM2
      cases e with
      | normal =>
        refine ⟨_, _, run_endRound none hr2, ?_⟩
        show hold g M K ((act g.ds tm).put d (.bool true)) _
        rw [put_act]
        exact ⟨_, M2, _, rfl, hle, hS.onto (hS2.putB _) hle, hK _ _ _ hle hq2⟩
      | ret =>
        refine ⟨_, _, run_endRound (some .ret) hr2, ?_⟩
        show hold g M K ((act g.ds tm).put d (.bool false)) _
        rw [put_act]
        exact ⟨_, M2, _, rfl, hle, hS.onto (hS2.putB _) hle, hK _ _ _ hle hq2⟩
      | exit id =>
        refine ⟨_, _, run_endRound (some (.exit id)) hr2, ?_⟩
        show hold g M K ((act g.ds tm).put d (.bool false)) _
        rw [put_act]
        exact ⟨_, M2, _, rfl, hle, hS.onto (hS2.putB _) hle, hK _ _ _ hle hq2⟩
      | _ => exact hq2.elim
    | _ => exact hq1.elim
/-- What is asked behind the function that was ranged over. -/
def rangeQ (P : Program) (ro : RO) (Q : Post) (tm : Tm) (l : Nat) (r : Loop) : Value → Mem → Heap → Prop := fun _ M' H' => ∃ st pend H2, H' = .blk l (.loop { r with state := st, pending := pend }) :: H2 ∧ st ≠ .busy ∧
  (match pend with
   | none => Q .normal tm M' H2
   | some c => AW P ro c Q tm M' H2)
/-- A range over a function, not within a round. -/
theorem AW.rangeF {x : Operand} {f : Nat} {fst cap : Array Value} {ps : Array Tmp} {assign body : Code} [Fn P f] (hx : ev tm x = .func (.func f) fst cap)
    (h : ∀ (l : Nat) (r : Loop) (M1 : Mem), Le M M1 → r.tmps = tm.toArray → r.state = .ready → r.pending = none → r.params = ps → r.assign = assign → r.body = body → AC P f (fst.toList ++ [Value.func (.yield l) #[] #[]] ++ cap.toList) M1 (.blk l (.loop r) :: H) (rangeQ P ⟨none, false⟩ Q tm l r)) :
    AW P ⟨none, false⟩ (.rangeFunc x ps assign body) Q tm M H := fun g w hS => by
  refine wpIn_rangeFunc fun fn hfn => ?_
  obtain ⟨r, hr⟩ : ∃ r : Loop, r = { state := .ready, pending := none, fn := fn, tmps := tm.toArray, params := ps, assign := assign, body := body, defers := w.heap.size } := ⟨_, rfl⟩
  have hS1 := (hS.alloc (.deferred (some []))).keep
  have hS2 := hS1.2.alloc (.loop r)
  rw [World.size_alloc] at hS2
  have hD : DsOk ⟨g.w, markD w.heap.size :: g.ds⟩ (M.add w.heap.size (.deferred (some []))) := by
    refine ⟨List.nodup_cons.2 ⟨fun hm => ?_, hS.dsok.1⟩, fun d hd => ?_⟩
    · obtain ⟨D, e, _, hm⟩ := hS.dsok.2 _ hm
      cases e
      have := hS.mlt hm
      omega
    · rcases List.mem_cons.1 hd with rfl | hd
      · exact ⟨_, rfl, hS.size, Mem.add_self ..⟩
      · exact (hS.dsok.mono hS1.1).2 d hd
  have hS3 : St ⟨g.w, markD w.heap.size :: g.ds⟩ (M.add w.heap.size (.deferred (some []))) (.blk (w.heap.size + 1) (.loop r) :: H) ((w.alloc (.deferred (some []))).alloc (.loop r)) :=
    ⟨hS2.os, hS2.tape, hS2.output, hS2.size, hS2.mem, hS2.own, hS2.nodup, hS2.apart, hD⟩
  have hx' : (act g.ds tm).eval x = .func (.func f) fst cap := by rw [ev_act]; exact hx
  have hc := h (w.heap.size + 1) r _ ⟨hS1.1⟩ (by rw [hr]) (by rw [hr]) (by rw [hr]) (by rw [hr]) (by rw [hr]) (by rw [hr]) _ _ hS3
  refine ⟨w.heap.size + 1, [markD w.heap.size], (w.alloc (.deferred (some []))).alloc (.loop r), { target := .fn (.func f) cap, args := fst ++ #[Value.func (.yield (w.heap.size + 1)) #[] #[]] }, (w.alloc (.deferred (some []))).alloc (.loop r), f, (fst.toList ++ [Value.func (.yield (w.heap.size + 1)) #[] #[]] ++ cap.toList).toArray, (w.alloc (.deferred (some []))).alloc (.loop r), ?_, ?_, fun _ _ => trivial, ?_, fun hd => by simp [fw, Fence.wide] at hd, ?_⟩
  · show (Instr.enterLoop fn (act g.ds tm).tmps ps assign body none).run P w = _
    rw [run_enterLoop_outer, hr]; rfl
  · simp only [resolve, hx']
    simp [go_sem, Deferred.ofValue, Act.eval]
  · have hm : fst ++ #[Value.func (.yield (w.heap.size + 1)) #[] #[]] ++ cap = (fst.toList ++ [Value.func (.yield (w.heap.size + 1)) #[] #[]] ++ cap.toList).toArray := by simp
    simp only [invoke, hm, run_callFunc]
  · refine callsIn_n (ro := none) (n := 0) (hc.mono fun e w3 hh => ?_)
    obtain ⟨v, M', H', rfl, hM, hS', st, pend, H2, rfl, hst, hq⟩ := hh
    have hl3 : w3.heap[w.heap.size + 1]? = some (.loop { r with state := st, pending := pend }) := hS'.own _ (List.mem_cons_self ..)
    refine ⟨pend, _, run_endLoop hl3 hst, ?_⟩
    have hS4 := (hS'.putB (.loop { r with state := .exhausted, pending := pend })).drop
    have hle := hS1.1.trans hM
    cases pend with
    | none => exact ⟨_, tm, M', H2, fun e => (by cases e), rfl, hle, hS4, hq⟩
    | some c => exact wpIn_mono (hq _ _ hS4) fun e a w5 hl => lift_of (fun e => (by cases e)) hle hl
theorem apost_in {l : Nat} {r : Loop} {body : Code} {R : Value → Mem → Heap → Prop} (h : AW P ⟨some l, true⟩ body (rpost l r R) tm M (.blk l (.loop { r with state := .busy }) :: H)) : apost l r body P R .normal tm M (.blk l (.loop r) :: H) := ⟨_, .refl _, h⟩
theorem apost_1 {l : Nat} {r : Loop} {body : Code} {R : Value → Mem → Heap → Prop} {e : Ent} (h : AW P ⟨some l, true⟩ body (rpost l r R) tm M (.blk l (.loop { r with state := .busy }) :: e :: H)) : apost l r body P R .normal tm M (e :: .blk l (.loop r) :: H) := ⟨_, List.Perm.swap .., h⟩
theorem rpost_n {l : Nat} {r : Loop} {R : Value → Mem → Heap → Prop} (h : R (.bool true) M (.blk l (.loop { r with state := .ready, pending := none }) :: H)) : rpost l r R .normal tm M (.blk l (.loop { r with state := .busy }) :: H) := ⟨_, rfl, h⟩
theorem rpost_r {l : Nat} {r : Loop} {R : Value → Mem → Heap → Prop} (h : R (.bool false) M (.blk l (.loop { r with state := .done, pending := some .ret }) :: H)) : rpost l r R .ret tm M (.blk l (.loop { r with state := .busy }) :: H) := ⟨_, rfl, h⟩
theorem rpost_x {l id : Nat} {r : Loop} {R : Value → Mem → Heap → Prop} (h : R (.bool false) M (.blk l (.loop { r with state := .done, pending := some (.exit id) }) :: H)) : rpost l r R (.exit id) tm M (.blk l (.loop { r with state := .busy }) :: H) := ⟨_, rfl, h⟩
theorem rangeQ_n {v : Value} {l : Nat} {r : Loop} (h : Q .normal tm M H) : rangeQ P ro Q tm l r v M (.blk l (.loop { r with state := .ready, pending := none }) :: H) := ⟨_, _, _, rfl, (by intro e; cases e), h⟩
theorem rangeQ_c {v : Value} {l : Nat} {r : Loop} {c : Code} (h : AW P ro c Q tm M H) : rangeQ P ro Q tm l r v M (.blk l (.loop { r with state := .done, pending := some c }) :: H) := ⟨_, _, _, rfl, (by intro e; cases e), h⟩
theorem sy {c : Code} {W : List Nat} {us : List Value} {tm1 : Tm} [h1 : Sa tm W us tm1] (h : AW P ro c Q tm1 M H) : AW P ro c Q (setAll tm W us) M H := by rw [h1.out]; exact h
theorem finM {fn : Func} {R : Value → Mem → Heap → Prop} {v : Value} (hr : ∀ M', Res P fn tm M' H v) (h : ∃ H3, List.Sublist H3 H ∧ ∀ M', R v M' H3) : bodyPM P fn R .ret tm M H := ⟨v, hr, h⟩
theorem fin0M {fn : Func} {R : Value → Mem → Heap → Prop} {v : Value} (hr : ∀ M', Res P fn tm M' H v) (h : ∃ H3, List.Sublist H3 H ∧ ∀ M', R v M' H3) : bodyPM P fn R .normal tm M H := ⟨v, hr, h⟩
/-! ### A frame -/
open Classical in
theorem St.unkeep {g : GW} {w : World} {M1 : Mem} {b : Nat} {o : Obj} (hg : DsOk g M) (hb : M b = none) (hM : (M.add b o).le M1) (hS : St g M1 H w) : ∃ M2 : Mem, M.le M2 ∧ St g M2 (.blk b o :: H) w := by
  have hb1 : M1 b = some o := hM _ _ (Mem.add_self ..)
  refine ⟨fun k => if k = b then none else M1 k, fun k o' hk => ?_, hS.os, hS.tape, hS.output, hS.size, fun k o' hk => ?_, fun e he => ?_, ?_, fun k hk => ?_, ⟨hg.1, fun d hd => ?_⟩⟩
  · have hne : k ≠ b := by
      intro e
      subst e
      rw [hb] at hk
      cases hk
    show (if k = b then none else M1 k) = some o'
    rw [if_neg hne]
    exact hM _ _ (by unfold Mem.add; rw [if_neg hne]; exact hk)
  · by_cases e : k = b
    · simp [e] at hk
    · simp only [e, if_false] at hk; exact hS.mem _ _ hk
  · rcases List.mem_cons.1 he with rfl | he
    · exact hS.mem _ _ hb1
    · exact hS.own e he
  · rw [fps_cons]
    simp only [Ent.fp, List.singleton_append, List.nodup_cons]
    exact ⟨fun hm => (by have := hS.apart b hm; rw [hb1] at this; cases this), hS.nodup⟩
  · show (if k = b then none else M1 k) = none
    by_cases e : k = b
    · rw [if_pos e]
    · rw [if_neg e]
      rw [fps_cons] at hk
      rcases List.mem_append.1 hk with hk | hk
      · simp [Ent.fp] at hk; exact absurd hk e
      · exact hS.apart k hk
  · obtain ⟨D, e, h1, h2⟩ := hg.2 d hd
    have hne : D ≠ b := by
      intro e
      subst e
      rw [hb] at h2
      cases h2
    refine ⟨D, e, h1, ?_⟩
    show (if D = b then none else M1 D) = _
    rw [if_neg hne]
    exact hM _ _ (by unfold Mem.add; rw [if_neg hne]; exact h2)
/-- What a callback does not know of stays as it is. -/
theorem AV.frame {fv : Value} {av : List Value} {b : Nat} {o : Obj} {R : Value → Heap → Prop} (h : ∀ M' : Mem, LeT M M' → AV P fv av M' H (fun r _ H' => R r H')) : AV P fv av M (.blk b o :: H) (fun r _ H' => ∃ H2, H' = .blk b o :: H2 ∧ R r H2) :=
  fun ro x args ts d ty pos aft gd tm K hx ha hK g w hS => by
    have hb : M b = none := hS.apart b (by simp [fps, Ent.fp])
    have hk := hS.keep
    have := h _ ⟨hk.1⟩ ro x args ts d ty pos aft gd tm (fun tm1 M1 H1 => ∃ v, tm1 = putL tm d v ∧ R v H1) hx ha (fun v M1 H1 _ hR => ⟨v, rfl, hR⟩) g w hk.2
    refine opIn_mono (fun a w' hh => ?_) (fun _ _ _ h => h) this
    obtain ⟨tm', M1, H1, rfl, hM, hS1, v, rfl, hR⟩ := hh
    obtain ⟨M2, hle, hS2⟩ := St.unkeep hS.dsok hb hM hS1
    exact ⟨_, M2, _, rfl, hle, hS2, hK v M2 _ hle ⟨_, rfl, hR⟩⟩
end
end Go.Proofs.YtieaiheejhmbfaaGreatDoor.ML
/- The abstract layer: regions whose order is open, with loads of the call's own beside events. No conditions. -/
namespace Go.Proofs.YtieaiheejhmbfaaGreatDoor.ML
open Go.RowKit
set_option linter.unusedVariables false
set_option linter.unusedSimpArgs false
section
variable {P : Program} {ro : RO} {ops : Array Oper} {Q : Post} {QT : Tm → Mem → Heap → Prop} {tab : List (List Nat)} {tm : Tm} {M : Mem} {H : Heap} {K K' : Tm → Mem → Heap → Prop}
abbrev Pe := Nat × Nat × Nat × List Value
/-- What is loaded stays, as long as something comes that does not lean on the load. -/
def PdOk (tab : List (List Nat)) (i : Nat) (M : Mem) (H : Heap) : List Pe → Prop
  | [] => True
  | p :: pd => ((tab.getD i []).contains p.1 = true ∨ Cels M H p.2.1 p.2.2.1 p.2.2.2) ∧ PdOk tab i M H pd
theorem PdOk.iff {i : Nat} : ∀ {pd : List Pe}, PdOk tab i M H pd ↔ ∀ p ∈ pd, (tab.getD i []).contains p.1 = true ∨ Cels M H p.2.1 p.2.2.1 p.2.2.2
  | [] => by simp [PdOk]
  | p :: pd => by rw [PdOk, PdOk.iff]; simp
def LoadV (P : Program) (T : TypeId) (vs : List Value) (v : Value) : Prop := (Sc P T ∧ vs = [v]) ∨ ∃ n, Ag P T n ∧ vs.length = n ∧ v = .agg vs.toArray
def PVP (P : Program) (ops : Array Oper) (o : Oper) (tm : Tm) (M : Mem) (H : Heap) (v : Value) : Option (Nat × Nat × List Value) → Prop
  | none => PVG P ops o tm M H true v
  | some (b, off, vs) => Region.wanted o (yielded ops tm.toArray) = true ∧ ∃ T x, o.op = .load T x ∧ ev tm x = .pointer (some ⟨b, off, none⟩) ∧ LoadV P T vs v ∧ Cels M H b off vs
def pdd (i : Nat) (e : Option (Nat × Nat × List Value)) (pd : List Pe) : List Pe := match e with | none => pd | some x => (i, x) :: pd
def ATp (P : Program) (ro : RO) (ops : Array Oper) (tab : List (List Nat)) (QT : Tm → Mem → Heap → Prop) : List Pe → List Nat → Tm → Mem → Heap → Prop
  | pd, [], tm, M, H => QT tm M H
  | pd, i :: l, tm, M, H => match ops[i]? with
    | none => False
    | some o => if isEv o.op then ST P ro ops o tm M H (fun tm' M' H' => PdOk tab i M' H' pd ∧ ATp P ro ops tab QT pd l tm' M' H')
      else ∃ v e, PVP P ops o tm M H v e ∧ ATp P ro ops tab QT (pdd i e pd) l (putL tm o.dst v) M H
theorem LoadV.run {T : TypeId} {vs : List Value} {v : Value} {b off : Nat} (h : LoadV P T vs v) {g : GW} {w : World} (hS : St g M H w) (hc : Cels M H b off vs) : (Instr.loadAt T (.pointer (some ⟨b, off, none⟩))).run P w = .ok v w := by
  rcases h with ⟨h1, rfl⟩ | ⟨n, h1, h2, rfl⟩
  · exact run_load_sc hS hc.1
  · exact run_load_ag hS h2 hc
theorem PVP.g {o : Oper} {v : Value} {e : Option (Nat × Nat × List Value)} (h : PVP P ops o tm M H v e) : PVG P ops o tm M H false v := by
  cases e with
  | none =>
    rcases h with ⟨h1, h2⟩ | h
    · exact .inl ⟨h1, by simpa using (show PVM P o tm M v by simpa using h2).h⟩
    · exact .inr h
  | some x =>
    obtain ⟨b, off, vs⟩ := x
    obtain ⟨hg, T, x, ho, hx, hl, hc⟩ := h
    refine .inl ⟨hg, ?_⟩
    show PVH P o tm M H v
    refine ⟨by rw [ho]; rfl, fun g w hS => ?_⟩
    simp only [execOp, ho, hx]
    exact run_v (hl.run hS hc)
theorem ev_put {tm : Tm} {x : Operand} {dst : Option Tmp} {u : Value} (h : ∀ d, dst = some d → x ≠ .tmp d) : ev (putL tm dst u) x = ev tm x := by
  cases dst with
  | none => rfl
  | some d =>
    cases x with
    | tmp t =>
      have : d ≠ t := fun e => h d rfl (by rw [e])
      simp [ev, putL, List.getD, List.getElem?_set_ne this]
    | _ => rfl
theorem PVP.put {o : Oper} {v : Value} {e : Option (Nat × Nat × List Value)} (hs : noSel o.op = true) {dst : Option Tmp} {u : Value} (h : ∀ d, dst = some d → d ∉ o.looksAt ops) : PVP P ops o (putL tm dst u) M H v e ↔ PVP P ops o tm M H v e := by
  cases e with
  | none => exact PVG.put hs dst u h
  | some x =>
    obtain ⟨b, off, vs⟩ := x
    have key : ∀ T x, o.op = .load T x → ev (putL tm dst u) x = ev tm x := fun T x ho => ev_put fun d hd e => h d hd (by
      subst e
      unfold Oper.looksAt
      rw [ho]
      simp [Op.operands])
    constructor
    · rintro ⟨hg, T, x, ho, hx, hl, hc⟩; exact ⟨by rw [← wanted_putL o dst u h]; exact hg, T, x, ho, by rw [← key T x ho]; exact hx, hl, hc⟩
    · rintro ⟨hg, T, x, ho, hx, hl, hc⟩; exact ⟨by rw [wanted_putL o dst u h]; exact hg, T, x, ho, by rw [key T x ho]; exact hx, hl, hc⟩
theorem PVP.move {o : Oper} {v : Value} {e : Option (Nat × Nat × List Value)} {M' : Mem} {H' : Heap} (h : PVP P ops o tm M H v e) (hM : M.le M') (hc : ∀ x, e = some x → Cels M' H' x.1 x.2.1 x.2.2) : PVP P ops o tm M' H' v e := by
  cases e with
  | none => exact PVG.mono hM h
  | some x =>
    obtain ⟨b, off, vs⟩ := x
    obtain ⟨hg, T, x, ho, hx, hl, _⟩ := h
    exact ⟨hg, T, x, ho, hx, hl, hc _ rfl⟩
theorem ATp.sub : ∀ {l : List Nat} {pd pd2 : List Pe} {tm : Tm} {M : Mem} {H : Heap}, (∀ p ∈ pd2, p ∈ pd) → ATp P ro ops tab QT pd l tm M H → ATp P ro ops tab QT pd2 l tm M H
  | [], _, _, _, _, _, _, h => h
  | i :: l, pd, pd2, tm, M, H, hs, h => by
    unfold ATp at h ⊢
    cases ho : ops[i]? with
    | none => simp [ho] at h
    | some o =>
      simp only [ho] at h ⊢
      split
      · rename_i hev
        rw [if_pos hev] at h
        exact h.mono fun tm' M' H' _ hh => ⟨PdOk.iff.2 fun p hp => PdOk.iff.1 hh.1 p (hs p hp), ATp.sub hs hh.2⟩
      · rename_i hev
        rw [if_neg hev] at h
        obtain ⟨v, e, hv, hk⟩ := h
        refine ⟨v, e, hv, ATp.sub (fun p hp => ?_) hk⟩
        cases e with
        | none => exact hs p hp
        | some x =>
          rcases List.mem_cons.1 hp with rfl | hp
          · exact List.mem_cons_self ..
          · exact List.mem_cons_of_mem _ (hs p hp)
/-- An operation run on other slots than those that it looks at. -/
theorem AS.put2 {oi oj : Oper} {v : Value} (hap : Oper.apart ops oj oi = true) (hi : noSel oi.op = true)
    (h : AS P ro oi (putL tm oj.dst v) M H K) : AS P ro oi tm M H (fun tm' M' H' => (∃ u, tm' = putL tm oi.dst u) ∧ M.le M' ∧ K (putL tm' oj.dst v) M' H') := fun g w hS => by
  obtain ⟨h1, h2, h3⟩ := Oper.apart_spec hap
  have h := h g w hS
  have hd : isDefer oi.op = false := by cases ho : oi.op <;> first | rfl | (rw [ho] at hi; cases hi)
  refine ⟨fun _ _ => trivial, ?_⟩
  have h := h.2
  rw [show (fw ro.ro).round = ro.ro from rfl, semAt_exec hd, ev_act] at h ⊢
  rw [exec_put (ops := ops) oi hi oj.dst v h1] at h
  have key : ∀ (u : Value) (w' : World), hold g M K ((act g.ds (putL tm oj.dst v)).put oi.dst u) w' → hold g M (fun tm' M' H' => (∃ u, tm' = putL tm oi.dst u) ∧ M.le M' ∧ K (putL tm' oj.dst v) M' H') ((act g.ds tm).put oi.dst u) w' := by
    intro u w' ⟨tm', M', H', e, hM, hS', hk⟩
    rw [put_act] at e ⊢
    have e' : tm' = putL (putL tm oj.dst v) oi.dst u := by
      have := congrArg (fun a : Act => a.tmps.toList) e
      simpa [act] using this.symm
    subst e'
    rw [putL_comm v u h2] at hk
    exact ⟨_, M', H', rfl, hM, hS', ⟨u, rfl⟩, hM, hk⟩
  generalize (execOp (ev tm) oi).run P w = r at h ⊢
  cases r with
  | ok x w1 =>
    cases x <;> simp only [Oper.uponIn] at h ⊢ <;> first
      | exact key _ _ h
      | exact ⟨h.1, CallsIn.mono h.2 fun e w2 he => by
          cases e with
          | returned u => exact key _ _ he
          | panicked c => exact he
          | outgrown => exact he⟩
      | exact ⟨h.1, RowsIn.mono h.2 fun u w2 he => key _ _ he⟩
      | exact ⟨h.1, RoundIn.mono h.2 fun e w2 he => by
          cases e with
          | returned u => exact key _ _ he
          | panicked c => exact he
          | outgrown => exact he⟩
      | (obtain ⟨tm', M', H', e, _⟩ := h
         have := congrArg (fun a : Act => a.defers) e
         cases hdd : oi.dst <;> simp [act, Act.put, hdd] at this)
  | halt x w1 => cases x <;> simp only [Oper.uponIn] at h ⊢ <;> exact h
theorem ST.put2 {oi oj : Oper} {v : Value} (hap : Oper.apart ops oj oi = true) (hi : noSel oi.op = true)
    (h : ST P ro ops oi (putL tm oj.dst v) M H K) : ST P ro ops oi tm M H (fun tm' M' H' => (∃ u, tm' = putL tm oi.dst u) ∧ M.le M' ∧ K (putL tm' oj.dst v) M' H') := by
  obtain ⟨h1, h2, h3⟩ := Oper.apart_spec hap
  unfold ST at h ⊢
  rw [wanted_putL oi oj.dst v h1] at h
  split
  · rename_i hw; rw [if_pos hw] at h; exact AS.put2 hap hi h
  · rename_i hw; rw [if_neg hw] at h
    rw [putL_comm v undef h2] at h
    exact ⟨⟨undef, rfl⟩, .refl M, h⟩
/-- What is ready may be taken first. -/
theorem ATp.first {ex : Nat → Nat → Bool} : ∀ {l : List Nat} {pd : List Pe} {i : Nat} {tm : Tm}, sepB ops tab ex l = true → l.Nodup → i ∈ l → (∀ j ∈ l, ex j i = false ∧ (tab.getD i []).contains j = false) →
    ATp P ro ops tab QT pd l tm M H → ∃ o, ops[i]? = some o ∧ (isEv o.op = true → ST P ro ops o tm M H (fun tm' M' H' => PdOk tab i M' H' pd ∧ ATp P ro ops tab QT pd (l.erase i) tm' M' H')) ∧ (isEv o.op = false → ∃ v e, PVP P ops o tm M H v e ∧ ATp P ro ops tab QT (pdd i e pd) (l.erase i) (putL tm o.dst v) M H)
  | [], _, _, _, _, _, hi, _, _ => by simp at hi
  | j :: l, pd, i, tm, hs, hnd, hi, hr, hA => by
    obtain ⟨oj, hoj, hsel, hs', hpair⟩ := sepB_cons hs
    by_cases hij : i = j
    · subst hij
      refine ⟨oj, hoj, ?_⟩
      rw [List.erase_cons_head]
      unfold ATp at hA
      simp only [hoj] at hA
      cases hev : isEv oj.op with
      | true =>
        rw [hev] at hA
        refine ⟨fun _ => by simpa using hA, fun h => ?_⟩
        cases h
      | false =>
        rw [hev] at hA
        refine ⟨fun h => ?_, fun _ => by simpa using hA⟩
        cases h
    · have hil : i ∈ l := by rcases List.mem_cons.1 hi with h | h; exact absurd h hij; exact h
      obtain ⟨oi, hoi, hcase⟩ := hpair i hil
      have hnb := hr j (List.mem_cons_self ..)
      obtain ⟨hnev, hap⟩ : isEv oj.op = false ∧ Oper.apart ops oj oi = true := by
        rcases hcase with (h | h) | h
        · rw [hnb.1] at h; cases h
        · rw [hnb.2] at h; cases h
        · exact h
      obtain ⟨h1, h2, h3⟩ := Oper.apart_spec hap
      rw [List.nodup_cons] at hnd
      unfold ATp at hA
      simp only [hoj, hnev, Bool.false_eq_true, if_false] at hA
      obtain ⟨vj, ej, hvj, hk⟩ := hA
      obtain ⟨oi', hoi', hst, hpv⟩ := ATp.first hs' hnd.2 hil (fun k hk => hr k (List.mem_cons_of_mem _ hk)) hk
      rw [hoi] at hoi'; cases hoi'
      obtain ⟨_, _, hseli⟩ : ∃ o, ops[i]? = some o ∧ noSel o.op = true := sepB_mem hs' hil
      rename_i o2 ho2
      rw [hoi] at ho2; cases ho2
      have hne : (j == i) = false := by simp; exact fun e => hij e.symm
      have her : (j :: l).erase i = j :: l.erase i := by rw [List.erase_cons, hne]; rfl
      refine ⟨oi, hoi, fun hei => ?_, fun hei => ?_⟩
      · refine (ST.put2 hap hseli (hst hei)).mono fun tm' M' H' hM hh => ?_
        obtain ⟨⟨u, rfl⟩, hM', hok, hrest⟩ := hh
        refine ⟨PdOk.iff.2 fun p hp => PdOk.iff.1 hok p ?_, ?_⟩
        · cases ej with
          | none => exact hp
          | some x => exact List.mem_cons_of_mem _ hp
        rw [her]
        unfold ATp
        simp only [hoj, hnev, Bool.false_eq_true, if_false]
        refine ⟨vj, ej, ((PVP.put hsel h3).2 (hvj.move hM' fun x hx => ?_)), hrest⟩
        subst hx
        rcases PdOk.iff.1 hok (j, x) (List.mem_cons_self ..) with h | h
        · rw [hnb.2] at h; cases h
        · exact h
      · obtain ⟨v, e, hv, hk2⟩ := hpv hei
        refine ⟨v, e, (PVP.put hseli h1).1 hv, ?_⟩
        rw [her]
        unfold ATp
        simp only [hoj, hnev, Bool.false_eq_true, if_false]
        refine ⟨vj, ej, (PVP.put hsel h3).2 hvj, ?_⟩
        rw [putL_comm vj v h2] at hk2
        refine ATp.sub (fun p hp => ?_) hk2
        cases e <;> cases ej <;> simp only [pdd, List.mem_cons] at hp ⊢ <;> first | exact hp | (rcases hp with h | h | h <;> simp [h])
/-- A region whose order is open, walked in one order. -/
theorem AW.regionP {id : Nat} {l0 : List Oper} (hx : P.follows .mixedOrders = true) (l : List Nat) (tab : List (List Nat)) (hc : chk l0.toArray true l tab = true) (h : ATp P ro l0.toArray tab (outQ Q) [] l tm M H) : AW P ro (.region id l0.toArray true) Q tm M H := by
  unfold chk at hc
  simp only [Bool.and_eq_true, beq_iff_eq, List.all_eq_true, List.mem_range, Bool.or_eq_true, decide_eq_true_eq] at hc
  obtain ⟨⟨⟨⟨⟨⟨⟨⟨c1, c2⟩, c3⟩, c4⟩, c5⟩, c6⟩, c7⟩, c8⟩, c9⟩ := hc
  refine AW.regionX (tab := tab) (X := fun l tm M H => sepB l0.toArray tab (fun _ _ => false) l = true ∧ ∃ pd, ATp P ro l0.toArray tab (outQ Q) pd l tm M H) hx (fun l i tm M H _ hA hnd hi hr => ?_) (fun _ _ _ h => by obtain ⟨_, pd, h⟩ := h; exact h) true l c2 c3 c4 c5 c7 c8 c9 ⟨c1, [], h⟩
  obtain ⟨hs, pd, hA⟩ := hA
  obtain ⟨o, ho, hst, hpv⟩ := ATp.first hs hnd hi (fun j hj => ⟨rfl, hr j hj⟩) hA
  refine ⟨o, ho, ?_⟩
  cases hev : isEv o.op with
  | true => exact (hst hev).mono fun _ _ _ _ h => ⟨sepB_erase hs i, pd, h.2⟩
  | false =>
    obtain ⟨v, e, hv, hk⟩ := hpv hev
    exact ST.ofG hv.g ⟨sepB_erase hs i, _, hk⟩
end
section
variable {P : Program} {ro : RO} {ops : Array Oper} {QT : Tm → Mem → Heap → Prop} {tab : List (List Nat)} {pd : List Pe} {tm : Tm} {F : Value → Tm} {M : Mem} {H : Heap} {i d : Nat} {l : List Nat} {op : Op} {ty : TypeId} {pos : String} {aft : Array Edge} {v : Value} {dd : Option Tmp} {T : TypeId} {x : Operand}
namespace DP
theorem p (ho : ops[i]? = some ⟨some d, op, ty, pos, aft, none⟩) (hn : isEv op = false) (hv : PVM P ⟨some d, op, ty, pos, aft, none⟩ tm M v) [hp : Pt tm d F] (h : ATp P ro ops tab QT pd l (F v) M H) : ATp P ro ops tab QT pd (i :: l) tm M H := by
  unfold ATp
  simp only [ho, hn, Bool.false_eq_true, if_false]
  refine ⟨v, none, .inl ⟨rfl, by simpa using hv⟩, ?_⟩
  show ATp P ro ops tab QT pd l (tm.set d v) M H
  rw [hp.out]; exact h
theorem lo {b off : Nat} (ho : ops[i]? = some ⟨some d, .load T x, ty, pos, aft, none⟩) [hs : Sc P T] [hx : Ev tm x (.pointer (some ⟨b, off, none⟩))] [hc : Cg M H b off v] [hp : Pt tm d F] (h : ATp P ro ops tab QT ((i, b, off, [v]) :: pd) l (F v) M H) : ATp P ro ops tab QT pd (i :: l) tm M H := by
  unfold ATp
  simp only [ho, isEv, Bool.false_eq_true, if_false]
  refine ⟨v, some (b, off, [v]), ⟨(by simp [Region.wanted]), T, x, rfl, hx.out, .inl ⟨hs, rfl⟩, hc.out, trivial⟩, ?_⟩
  show ATp P ro ops tab QT _ l (tm.set d v) M H
  rw [hp.out]; exact h
theorem loA {b off n : Nat} {vs : List Value} (ho : ops[i]? = some ⟨some d, .load T x, ty, pos, aft, none⟩) [hs : Ag P T n] [hx : Ev tm x (.pointer (some ⟨b, off, none⟩))] [hc : Cgs M H b off n vs] [hp : Pt tm d F] (h : ATp P ro ops tab QT ((i, b, off, vs) :: pd) l (F (.agg vs.toArray)) M H) : ATp P ro ops tab QT pd (i :: l) tm M H := by
  unfold ATp
  simp only [ho, isEv, Bool.false_eq_true, if_false]
  refine ⟨.agg vs.toArray, some (b, off, vs), ⟨(by simp [Region.wanted]), T, x, rfl, hx.out, .inr ⟨n, hs, hc.out.2, rfl⟩, hc.out.1⟩, ?_⟩
  show ATp P ro ops tab QT _ l (tm.set d _) M H
  rw [hp.out]; exact h
theorem e (ho : ops[i]? = some ⟨dd, op, ty, pos, aft, none⟩) (hn : isEv op = true) (h : AS P ro ⟨dd, op, ty, pos, aft, none⟩ tm M H (fun tm' M' H' => PdOk tab i M' H' pd ∧ ATp P ro ops tab QT pd l tm' M' H')) : ATp P ro ops tab QT pd (i :: l) tm M H := by
  unfold ATp
  simp only [ho, hn, if_true]
  unfold ST
  rw [if_pos (show Region.wanted _ _ = true from rfl)]
  exact h
theorem nl (h : QT tm M H) : ATp P ro ops tab QT pd [] tm M H := h
theorem pOn {j : Nat} {w b : Bool} {tj : Nat} (ho : ops[i]? = some ⟨some d, op, ty, pos, aft, some (j, w)⟩) (hj : (ops[j]?).bind (·.dst) = some tj) [hg : Gt tm tj (.bool b)] (hb : b = w) (hn : isEv op = false) (hv : PVM P ⟨some d, op, ty, pos, aft, some (j, w)⟩ tm M v) [hp : Pt tm d F] (h : ATp P ro ops tab QT pd l (F v) M H) : ATp P ro ops tab QT pd (i :: l) tm M H := by
  unfold ATp
  simp only [ho, hn, Bool.false_eq_true, if_false]
  refine ⟨v, none, .inl ⟨?_, by simpa using hv⟩, ?_⟩
  · subst hb
    simp only [Region.wanted, D.yl hj hg.out]
    simp
  · show ATp P ro ops tab QT pd l (tm.set d v) M H
    rw [hp.out]; exact h
theorem loOn {j : Nat} {w b' : Bool} {tj b off : Nat} (ho : ops[i]? = some ⟨some d, .load T x, ty, pos, aft, some (j, w)⟩) (hj : (ops[j]?).bind (·.dst) = some tj) [hg : Gt tm tj (.bool b')] (hb : b' = w) [hs : Sc P T] [hx : Ev tm x (.pointer (some ⟨b, off, none⟩))] [hc : Cg M H b off v] [hp : Pt tm d F] (h : ATp P ro ops tab QT ((i, b, off, [v]) :: pd) l (F v) M H) : ATp P ro ops tab QT pd (i :: l) tm M H := by
  unfold ATp
  simp only [ho, isEv, Bool.false_eq_true, if_false]
  refine ⟨v, some (b, off, [v]), ⟨?_, T, x, rfl, hx.out, .inl ⟨hs, rfl⟩, hc.out, trivial⟩, ?_⟩
  · subst hb
    simp only [Region.wanted, D.yl hj hg.out]
    simp
  · show ATp P ro ops tab QT _ l (tm.set d v) M H
    rw [hp.out]; exact h
theorem eOn {j : Nat} {w b : Bool} {tj : Nat} (ho : ops[i]? = some ⟨dd, op, ty, pos, aft, some (j, w)⟩) (hj : (ops[j]?).bind (·.dst) = some tj) [hg : Gt tm tj (.bool b)] (hb : b = w) (hn : isEv op = true) (h : AS P ro ⟨dd, op, ty, pos, aft, some (j, w)⟩ tm M H (fun tm' M' H' => PdOk tab i M' H' pd ∧ ATp P ro ops tab QT pd l tm' M' H')) : ATp P ro ops tab QT pd (i :: l) tm M H := by
  unfold ATp
  simp only [ho, hn, if_true]
  unfold ST
  rw [if_pos (by subst hb; simp only [Region.wanted, D.yl hj hg.out]; simp)]
  exact h
theorem off {j : Nat} {w b : Bool} {tj : Nat} (ho : ops[i]? = some ⟨some d, op, ty, pos, aft, some (j, w)⟩) (hj : (ops[j]?).bind (·.dst) = some tj) [hg : Gt tm tj (.bool b)] (hb : b ≠ w) [hp : Pt tm d F] (hk : PdOk tab i M H pd) (h : ATp P ro ops tab QT pd l (F undef) M H) : ATp P ro ops tab QT pd (i :: l) tm M H := by
  have hw : Region.wanted ⟨some d, op, ty, pos, aft, some (j, w)⟩ (yielded ops tm.toArray) = false := by
    simp only [Region.wanted, D.yl hj hg.out]
    simp [hb]
  have h' : ATp P ro ops tab QT pd l (tm.set d undef) M H := by rw [hp.out]; exact h
  unfold ATp
  simp only [ho]
  split
  · unfold ST; rw [hw]; exact ⟨hk, h'⟩
  · exact ⟨undef, none, .inr ⟨hw, rfl⟩, h'⟩
theorem onoff {b : Bool} (w w' : Bool) (hw : (!w) = w') (tj : Nat) [hg : Gt tm tj (.bool b)] (h1 : b = w → ATp P ro ops tab QT pd (i :: l) tm M H) (h2 : b = w' → ATp P ro ops tab QT pd (i :: l) tm M H) : ATp P ro ops tab QT pd (i :: l) tm M H := by
  by_cases hb : b = w
  · exact h1 hb
  · exact h2 (by subst hw; cases b <;> cases w <;> simp_all)
end DP
theorem pk0 : PdOk tab i M H [] := trivial
theorem pk1 {j b off : Nat} {vs : List Value} (hc : (tab.getD i []).contains j = true) (h : PdOk tab i M H pd) : PdOk tab i M H ((j, b, off, vs) :: pd) := ⟨.inl hc, h⟩
theorem pk2 {j b off : Nat} [hc : Cg M H b off v] (h : PdOk tab i M H pd) : PdOk tab i M H ((j, b, off, [v]) :: pd) := ⟨.inr ⟨hc.out, trivial⟩, h⟩
theorem pk3 {j b off n : Nat} {vs : List Value} [hc : Cgs M H b off n vs] (h : PdOk tab i M H pd) : PdOk tab i M H ((j, b, off, vs) :: pd) := ⟨.inr hc.out.1, h⟩
end
end Go.Proofs.YtieaiheejhmbfaaGreatDoor.ML
