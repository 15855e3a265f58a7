/- The abstract layer: regions whose order is open. No conditions. -/
import Derived.Test.YtieaiheejhmbfaaGreatDoorPk1
import Derived.Laws.Tables
import Derived.Lib.AppendStr
namespace Go.Proofs.YtieaiheejhmbfaaGreatDoor.ML
open Go.RowKit
set_option linter.unusedVariables false
set_option linter.unusedSimpArgs false
section
variable {P : Program} {ro : RO} {ops : Array Oper} {Q : Post} {tm : Tm} {M : Mem} {H : Heap} {K K' : Tm → Mem → Heap → Prop}
/-- The operations that do more than yield a value of what stays. -/
def isEv : Op → Bool
  | .move _ | .assign _ | .pick .. | .load .. | .nilCheck _ | .binOp .. | .unOp .. | .convert .. | .makeInterface .. | .makeFunc .. | .slice .. | .fieldAddr .. | .field .. | .indexAddr .. | .index .. | .extract .. | .build .. => false
  | .call { callee := .builtin b, .. } => (match b with | .len => false | .cap => false | .min => false | .max => false | _ => true)
  | _ => true
def dirs (ops : Array Oper) (j : Nat) : List Nat := match ops[j]? with
  | some o => o.after.toList.filterMap fun e => if Region.binds .any e then some e.on else none
  | none => []
def noSel : Op → Bool | .select .. => false | .defer _ => false | _ => true
/-- Behind an event all lean on it; what does not lean on an earlier one stands apart from it. -/
def sepB (ops : Array Oper) (tab : List (List Nat)) (ex : Nat → Nat → Bool) : List Nat → Bool
  | [] => true
  | i :: l => (match ops[i]? with
    | some oi => noSel oi.op && l.all fun j => match ops[j]? with
      | some oj => ex i j || (tab.getD j []).contains i || (!isEv oi.op && Oper.apart ops oi oj)
      | none => false
    | none => false) && sepB ops tab ex l
def linB (ops : Array Oper) : List Nat → Bool
  | [] => true
  | i :: l => (dirs ops i).all (fun d => !(i :: l).contains d) && linB ops l
def tabB (ops : Array Oper) (tab : List (List Nat)) : Bool := (List.range ops.size).all fun j => (tab.getD j []).all fun k => (dirs ops j).contains k || (dirs ops j).any fun d => d < j && (tab.getD d []).contains k
def ndB : List Nat → Bool
  | [] => true
  | i :: l => !l.contains i && ndB l
theorem ndB_nodup : ∀ {l : List Nat}, ndB l = true → l.Nodup
  | [], _ => List.nodup_nil
  | i :: l, h => by
    unfold ndB at h
    simp only [Bool.and_eq_true, Bool.not_eq_true'] at h
    exact List.nodup_cons.2 ⟨fun hm => by rw [List.contains_iff_mem.2 hm] at h; exact Bool.noConfusion h.1, ndB_nodup h.2⟩
def chk (ops : Array Oper) (m : Bool) (l : List Nat) (tab : List (List Nat)) : Bool :=
  sepB ops tab (fun _ _ => false) l && linB ops l && tabB ops tab && l.length == ops.size && (List.range ops.size).all (fun i => l.contains i) && (m || ops.all fun o => !isEv o.op) && (List.range ops.size).all (fun j => (dirs ops j).all fun d => d < ops.size) && ndB l && l.all (fun i => i < ops.size)
/-- One operation, its guard asked. -/
def ST (P : Program) (ro : RO) (ops : Array Oper) (o : Oper) (tm : Tm) (M : Mem) (H : Heap) (K : Tm → Mem → Heap → Prop) : Prop :=
  if Region.wanted o (yielded ops tm.toArray) then AS P ro o tm M H K else K (putL tm o.dst undef) M H
def PVG (P : Program) (ops : Array Oper) (o : Oper) (tm : Tm) (M : Mem) (H : Heap) (m : Bool) (v : Value) : Prop :=
  (Region.wanted o (yielded ops tm.toArray) = true ∧ (if m then PVM P o tm M v else PVH P o tm M H v)) ∨ (Region.wanted o (yielded ops tm.toArray) = false ∧ v = undef)
/-- The operations in the order of the list: what is no event yields its value at once. -/
def AT (P : Program) (ro : RO) (ops : Array Oper) (m : Bool) (Q : Tm → Mem → Heap → Prop) : List Nat → Tm → Mem → Heap → Prop
  | [], tm, M, H => Q tm M H
  | i :: l, tm, M, H => match ops[i]? with
    | none => False
    | some o => if isEv o.op then ST P ro ops o tm M H (AT P ro ops m Q l) else ∃ v, PVG P ops o tm M H m v ∧ AT P ro ops m Q l (putL tm o.dst v) M H
theorem PVG.mono {o : Oper} {M' : Mem} {H' : Heap} {v : Value} (hM : M.le M') (h : PVG P ops o tm M H true v) : PVG P ops o tm M' H' true v := by
  rcases h with ⟨h1, h2⟩ | h
  · exact .inl ⟨h1, by simpa using PVM.mono hM (by simpa using h2)⟩
  · exact .inr h
theorem ST.mono {o : Oper} (h : ST P ro ops o tm M H K) (hk : ∀ tm M' H', M.le M' → K tm M' H' → K' tm M' H') : ST P ro ops o tm M H K' := by
  unfold ST at h ⊢
  split
  · rename_i hw; rw [if_pos hw] at h; exact h.mono hk
  · rename_i hw; rw [if_neg hw] at h; exact hk _ _ _ (.refl M) h
theorem exec_put (o : Oper) (hs : noSel o.op = true) (dst : Option Tmp) (v : Value) (h : ∀ d, dst = some d → d ∉ o.looksAt ops) : execOp (ev (putL tm dst v)) o = execOp (ev tm) o := by
  have := execOp_put (ops := ops) o (fun cs b e => by rw [e] at hs; cases hs) (act [] tm) dst v h
  rwa [put_act, ev_act, ev_act] at this
theorem wanted_putL (o : Oper) (dst : Option Tmp) (v : Value) (h : ∀ d, dst = some d → d ∉ o.looksAt ops) : Region.wanted o (yielded ops (putL tm dst v).toArray) = Region.wanted o (yielded ops tm.toArray) := by
  have := wanted_put (ops := ops) o (act [] tm) dst v h
  rwa [put_act] at this
theorem putL_comm {d1 d2 : Option Tmp} (v u : Value) (h : ∀ d, d1 = some d → d2 ≠ some d) : putL (putL tm d1 v) d2 u = putL (putL tm d2 u) d1 v := by
  cases d1 with
  | none => rfl
  | some a =>
    cases d2 with
    | none => rfl
    | some b =>
      have : a ≠ b := fun e => h a rfl (by rw [e])
      exact List.set_comm _ _ this
theorem PVG.put {o : Oper} {m : Bool} {v : Value} (hs : noSel o.op = true) (dst : Option Tmp) (u : Value) (h : ∀ d, dst = some d → d ∉ o.looksAt ops) : PVG P ops o (putL tm dst u) M H m v ↔ PVG P ops o tm M H m v := by
  unfold PVG PVM PVH
  rw [wanted_putL o dst u h, exec_put o hs dst u h]
theorem ST.ofG {o : Oper} {m : Bool} {v : Value} (h : PVG P ops o tm M H m v) (hk : K (putL tm o.dst v) M H) : ST P ro ops o tm M H K := by
  unfold ST
  rcases h with ⟨h1, h2⟩ | ⟨h1, rfl⟩
  · rw [if_pos h1]
    cases m
    · exact AS.q (by simpa using h2) hk
    · exact AS.p (by simpa using h2) hk
  · rw [if_neg (by rw [h1]; decide)]; exact hk
/-- An operation run on other slots than those that it looks at. -/
theorem AS.put {oi oj : Oper} {v : Value} (hap : Oper.apart ops oj oi = true) (hi : noSel oi.op = true) (hj : noSel oj.op = true) (hv : PVG P ops oj tm M H true v)
    (h : AS P ro oi (putL tm oj.dst v) M H K) : AS P ro oi tm M H (fun tm' M' H' => PVG P ops oj tm' M' H' true v ∧ K (putL tm' oj.dst v) M' H') := fun g w hS => by
  obtain ⟨h1, h2, h3⟩ := Oper.apart_spec hap
  have h := h g w hS
  have hd : isDefer oi.op = false := by cases ho : oi.op <;> first | rfl | (rw [ho] at hi; cases hi)
  refine ⟨fun _ _ => trivial, ?_⟩
  have h := h.2
  rw [show (fw ro.ro).round = ro.ro from rfl, semAt_exec hd, ev_act] at h ⊢
  rw [exec_put (ops := ops) oi hi oj.dst v h1] at h
  have key : ∀ (u : Value) (w' : World), hold g M K ((act g.ds (putL tm oj.dst v)).put oi.dst u) w' → hold g M (fun tm' M' H' => PVG P ops oj tm' M' H' true v ∧ K (putL tm' oj.dst v) M' H') ((act g.ds tm).put oi.dst u) w' := by
    intro u w' ⟨tm', M', H', e, hM, hS', hk⟩
    rw [put_act] at e ⊢
    have e' : tm' = putL (putL tm oj.dst v) oi.dst u := by
      have := congrArg (fun a : Act => a.tmps.toList) e
      simpa [act] using this.symm
    subst e'
    rw [putL_comm v u h2] at hk
    exact ⟨_, M', H', rfl, hM, hS', (PVG.put hj oi.dst u h3).2 (hv.mono hM), hk⟩
  generalize (execOp (ev tm) oi).run P w = r at h ⊢
  cases r with
  | ok x w1 =>
    cases x <;> simp only [Oper.uponIn] at h ⊢ <;> first
      | exact key _ _ h
      | exact ⟨h.1, CallsIn.mono h.2 fun e w2 he => by
          cases e with
          | returned u => exact key _ _ he
          | panicked c => exact he
          | outgrown => exact he⟩
      | exact ⟨h.1, RowsIn.mono h.2 fun u w2 he => key _ _ he⟩
      | exact ⟨h.1, RoundIn.mono h.2 fun e w2 he => by
          cases e with
          | returned u => exact key _ _ he
          | panicked c => exact he
          | outgrown => exact he⟩
      | (obtain ⟨tm', M', H', e, _⟩ := h
         have := congrArg (fun a : Act => a.defers) e
         cases hdd : oi.dst <;> simp [act, Act.put, hdd] at this)
  | halt x w1 => cases x <;> simp only [Oper.uponIn] at h ⊢ <;> exact h
theorem ST.put {oi oj : Oper} {v : Value} (hap : Oper.apart ops oj oi = true) (hi : noSel oi.op = true) (hj : noSel oj.op = true) (hv : PVG P ops oj tm M H true v)
    (h : ST P ro ops oi (putL tm oj.dst v) M H K) : ST P ro ops oi tm M H (fun tm' M' H' => PVG P ops oj tm' M' H' true v ∧ K (putL tm' oj.dst v) M' H') := by
  obtain ⟨h1, h2, h3⟩ := Oper.apart_spec hap
  unfold ST at h ⊢
  rw [wanted_putL oi oj.dst v h1] at h
  split
  · rename_i hw; rw [if_pos hw] at h; exact AS.put hap hi hj hv h
  · rename_i hw; rw [if_neg hw] at h
    rw [putL_comm v undef h2] at h
    exact ⟨(PVG.put hj oi.dst undef h3).2 hv, h⟩
theorem sepB_cons {tab : List (List Nat)} {ex : Nat → Nat → Bool} {i : Nat} {l : List Nat} (h : sepB ops tab ex (i :: l) = true) : ∃ oi, ops[i]? = some oi ∧ noSel oi.op = true ∧ sepB ops tab ex l = true ∧
    ∀ j ∈ l, ∃ oj, ops[j]? = some oj ∧ ((ex i j = true ∨ (tab.getD j []).contains i = true) ∨ (isEv oi.op = false ∧ Oper.apart ops oi oj = true)) := by
  unfold sepB at h
  cases ho : ops[i]? with
  | none => simp [ho] at h
  | some oi =>
    simp only [ho, Bool.and_eq_true, List.all_eq_true] at h
    obtain ⟨⟨h0, h1⟩, h2⟩ := h
    refine ⟨oi, rfl, h0, h2, fun j hj => ?_⟩
    have := h1 j hj
    cases hoj : ops[j]? with
    | none => simp [hoj] at this
    | some oj =>
      simp only [hoj, Bool.or_eq_true, Bool.and_eq_true, Bool.not_eq_true'] at this
      exact ⟨oj, rfl, this⟩
theorem sepB_mem {tab : List (List Nat)} {ex : Nat → Nat → Bool} : ∀ {l : List Nat} {i : Nat}, sepB ops tab ex l = true → i ∈ l → ∃ oi, ops[i]? = some oi ∧ noSel oi.op = true
  | j :: l, i, h, hm => by
    obtain ⟨oj, h1, h2, h3, _⟩ := sepB_cons h
    rcases List.mem_cons.1 hm with rfl | hm
    · exact ⟨oj, h1, h2⟩
    · exact sepB_mem h3 hm
theorem sepB_mono {tab : List (List Nat)} {ex ex' : Nat → Nat → Bool} : ∀ {l : List Nat}, (∀ i ∈ l, ∀ j ∈ l, ex i j = true → ex' i j = true) → sepB ops tab ex l = true → sepB ops tab ex' l = true
  | [], _, _ => by simp [sepB]
  | i :: l, he, h => by
    unfold sepB at h ⊢
    simp only [Bool.and_eq_true] at h ⊢
    refine ⟨?_, sepB_mono (fun i hi j hj => he i (List.mem_cons_of_mem _ hi) j (List.mem_cons_of_mem _ hj)) h.2⟩
    cases ho : ops[i]? with
    | none => simp [ho] at h
    | some oi =>
      simp only [ho, Bool.and_eq_true, List.all_eq_true] at h ⊢
      refine ⟨h.1.1, fun k hk => ?_⟩
      have := h.1.2 k hk
      cases hk2 : ops[k]? with
      | none => simp [hk2] at this
      | some ok =>
        simp only [hk2, Bool.or_eq_true, Bool.and_eq_true, Bool.not_eq_true'] at this ⊢
        rcases this with (h1 | h1) | h1
        · exact .inl (.inl (he i (List.mem_cons_self ..) k (List.mem_cons_of_mem _ hk) h1))
        · exact .inl (.inr h1)
        · exact .inr h1
theorem sepB_erase {tab : List (List Nat)} {ex : Nat → Nat → Bool} : ∀ {l : List Nat}, sepB ops tab ex l = true → ∀ i, sepB ops tab ex (l.erase i) = true
  | [], _, _ => by simp [sepB]
  | j :: l, h, i => by
    rw [List.erase_cons]
    split
    · obtain ⟨_, _, _, h, _⟩ := sepB_cons h; exact h
    · have h' := h
      unfold sepB at h ⊢
      simp only [Bool.and_eq_true] at h ⊢
      refine ⟨?_, sepB_erase h.2 i⟩
      cases ho : ops[j]? with
      | none => simp [ho] at h
      | some oj =>
        simp only [ho, Bool.and_eq_true, List.all_eq_true] at h ⊢
        exact ⟨h.1.1, fun k hk => h.1.2 k (List.mem_of_mem_erase hk)⟩
theorem linB_erase : ∀ {l : List Nat}, linB ops l = true → ∀ i, linB ops (l.erase i) = true
  | [], _, _ => by simp [linB]
  | j :: l, h, i => by
    rw [List.erase_cons]
    unfold linB at h
    simp only [Bool.and_eq_true] at h
    split
    · exact h.2
    · unfold linB
      simp only [Bool.and_eq_true, List.all_eq_true, Bool.not_eq_true'] at h ⊢
      refine ⟨fun d hd => ?_, linB_erase h.2 i⟩
      have := h.1 d hd
      cases hc : (j :: l.erase i).contains d with
      | false => rfl
      | true =>
        have hm := List.contains_iff_mem.1 hc
        have : d ∈ j :: l := by rcases List.mem_cons.1 hm with e | e; exact e ▸ List.mem_cons_self ..; exact List.mem_cons_of_mem _ (List.mem_of_mem_erase e)
        rw [List.contains_iff_mem.2 this] at *
        contradiction
/-- What is ready may be taken first. -/
theorem AT.first {m : Bool} {tab : List (List Nat)} {ex : Nat → Nat → Bool} (hm : m = true ∨ ∀ (i : Nat) (o : Oper), ops[i]? = some o → isEv o.op = false) {QT : Tm → Mem → Heap → Prop} : ∀ {l : List Nat} {i : Nat} {tm : Tm}, sepB ops tab ex l = true → l.Nodup → i ∈ l → (∀ j ∈ l, ex j i = false ∧ (tab.getD i []).contains j = false) →
    AT P ro ops m QT l tm M H → ∃ o, ops[i]? = some o ∧ ST P ro ops o tm M H (AT P ro ops m QT (l.erase i)) ∧ (isEv o.op = false → ∃ v, PVG P ops o tm M H m v ∧ AT P ro ops m QT (l.erase i) (putL tm o.dst v) M H)
  | [], _, _, _, _, hi, _, _ => by simp at hi
  | j :: l, i, tm, hs, hnd, hi, hr, hA => by
    obtain ⟨oj, hoj, hsel, hs', hpair⟩ := sepB_cons hs
    by_cases hij : i = j
    · subst hij
      refine ⟨oj, hoj, ?_⟩
      rw [List.erase_cons_head]
      unfold AT at hA
      simp only [hoj] at hA
      cases hev : isEv oj.op with
      | true => rw [hev] at hA; exact ⟨by simpa using hA, fun h => by cases h⟩
      | false =>
        rw [hev] at hA
        simp only [Bool.false_eq_true, if_false] at hA
        obtain ⟨v, hv, hk⟩ := hA
        exact ⟨ST.ofG hv hk, fun _ => ⟨v, hv, hk⟩⟩
    · have hil : i ∈ l := by rcases List.mem_cons.1 hi with h | h; exact absurd h hij; exact h
      obtain ⟨oi, hoi, hcase⟩ := hpair i hil
      have hnb := hr j (List.mem_cons_self ..)
      obtain ⟨hnev, hap⟩ : isEv oj.op = false ∧ Oper.apart ops oj oi = true := by
        rcases hcase with (h | h) | h
        · rw [hnb.1] at h; cases h
        · rw [hnb.2] at h; cases h
        · exact h
      obtain ⟨h1, h2, h3⟩ := Oper.apart_spec hap
      rw [List.nodup_cons] at hnd
      unfold AT at hA
      simp only [hoj, hnev, Bool.false_eq_true, if_false] at hA
      obtain ⟨vj, hvj, hk⟩ := hA
      obtain ⟨oi', hoi', hst, hpv⟩ := AT.first hm hs' hnd.2 hil (fun k hk => hr k (List.mem_cons_of_mem _ hk)) hk
      rw [hoi] at hoi'; cases hoi'
      obtain ⟨_, _, hseli⟩ : ∃ o, ops[i]? = some o ∧ noSel o.op = true := sepB_mem hs' hil
      rename_i o2 ho2
      rw [hoi] at ho2; cases ho2
      have hne : (j == i) = false := by simp; exact fun e => hij e.symm
      have her : (j :: l).erase i = j :: l.erase i := by rw [List.erase_cons, hne]; rfl
      have hpure : isEv oi.op = false → ∃ v, PVG P ops oi tm M H m v ∧ AT P ro ops m QT ((j :: l).erase i) (putL tm oi.dst v) M H := fun hei => by
        obtain ⟨v, hv, hk2⟩ := hpv hei
        refine ⟨v, (PVG.put hseli oj.dst vj h1).1 hv, ?_⟩
        rw [her]
        unfold AT
        simp only [hoj, hnev, Bool.false_eq_true, if_false]
        exact ⟨vj, (PVG.put hsel oi.dst v h3).2 hvj, by rw [putL_comm vj v h2] at hk2; exact hk2⟩
      refine ⟨oi, hoi, ?_, hpure⟩
      cases hei : isEv oi.op with
      | false =>
        obtain ⟨v, hv, hk2⟩ := hpure hei
        exact ST.ofG hv hk2
      | true =>
        rcases hm with rfl | hm
        · refine (ST.put hap hseli hsel hvj hst).mono fun tm' M' H' hM hh => ?_
          rw [her]
          unfold AT
          simp only [hoj, hnev, Bool.false_eq_true, if_false]
          exact ⟨vj, hh.1, hh.2⟩
        · have := hm i oi hoi; rw [hei] at this; cases this
/-- The post of a region: it ends as it ends in the text's order. -/
theorem listed_of_ready {listed : Array Bool} {i : Nat} (h : i ∈ Region.ready .any ops listed) : i < ops.size ∧ listed.getD i true = false ∧ ∀ d ∈ dirs ops i, listed.getD d false = true := by
  unfold Region.ready at h
  simp only [List.mem_filter, List.mem_range, Bool.and_eq_true, Bool.not_eq_true'] at h
  obtain ⟨h1, h2, h3⟩ := h
  refine ⟨h1, h2, fun d hd => ?_⟩
  unfold dirs at hd
  rw [Array.getElem?_eq_getElem h1] at h3 hd
  simp only [Option.map_some, Option.getD_some, Array.all_eq_true'] at h3
  simp only [List.mem_filterMap] at hd
  obtain ⟨e, he, hde⟩ := hd
  have := h3 e (Array.mem_toList_iff.1 he)
  split at hde
  · rename_i hb
    cases hde
    rw [hb] at this
    simpa using this
  · cases hde
theorem ready_of_listed {listed : Array Bool} {i : Nat} (h1 : i < ops.size) (h2 : listed.getD i true = false) (h3 : ∀ d ∈ dirs ops i, listed.getD d false = true) : i ∈ Region.ready .any ops listed := by
  unfold Region.ready
  simp only [List.mem_filter, List.mem_range, Bool.and_eq_true, Bool.not_eq_true']
  refine ⟨h1, h2, ?_⟩
  rw [Array.getElem?_eq_getElem h1]
  simp only [Option.map_some, Option.getD_some, Array.all_eq_true']
  intro e he
  cases hb : Region.binds .any e with
  | false => rfl
  | true =>
    have := h3 e.on (by unfold dirs; rw [Array.getElem?_eq_getElem h1]; simp only [List.mem_filterMap]; exact ⟨e, Array.mem_toList_iff.2 he, by simp [hb]⟩)
    simpa using this
def outQ (Q : Post) : Tm → Mem → Heap → Prop := Q .normal
theorem AT.any {tab : List (List Nat)} {X : List Nat → Tm → Mem → Heap → Prop} (hX : ∀ (l : List Nat) (i : Nat) (tm : Tm) (M : Mem) (H : Heap), (∃ g w, St g M H w) → X l tm M H → l.Nodup → i ∈ l → (∀ j ∈ l, (tab.getD i []).contains j = false) → ∃ o, ops[i]? = some o ∧ ST P ro ops o tm M H (X (l.erase i)))
    (h0 : ∀ tm M H, X [] tm M H → outQ Q tm M H) (ht : tabB ops tab = true) : ∀ (fuel : Nat) (l : List Nat) (listed : Array Bool) (tm : Tm) (M : Mem) (H : Heap) (g : GW) (M0 : Mem) (w : World),
    l.length = fuel → listed.size = ops.size → (∀ i, i < ops.size → (i ∈ l ↔ listed.getD i true = false)) → (∀ i ∈ l, i < ops.size) → l.Nodup → linB ops l = true →
    (∀ i, i < ops.size → listed.getD i true = true → ∀ d ∈ dirs ops i, listed.getD d false = true) → (∀ i, i < ops.size → ∀ d ∈ dirs ops i, d < ops.size) →
    X l tm M H → M0.le M → St g M H w → wpAnyIn (fw ro.ro) 0 P .any ops (lift ro.fx g M0 Q) fuel listed (act g.ds tm) w
  | 0, l, listed, tm, M, H, g, M0, w, hl, hsz, hc, _, _, _, _, _, hA, hM, hS => by
    have hnil : l = [] := List.eq_nil_of_length_eq_zero hl
    subst hnil
    refine ⟨?_, lift_mono hM (fun _ _ _ _ _ h => h) (lift_in hS (h0 _ _ _ hA))⟩
    cases hr : Region.ready .any ops listed with
    | nil => rfl
    | cons i rs =>
      obtain ⟨h1, h2, _⟩ := listed_of_ready (ops := ops) (listed := listed) (i := i) (by rw [hr]; exact List.mem_cons_self ..)
      have := (hc i h1).2 h2
      simp at this
  | fuel + 1, l, listed, tm, M, H, g, M0, w, hl, hsz, hc, hlt, hnd, hlin, hdown, hdl, hA, hM, hS => by
    refine ⟨fun hr => ?_, fun i hi => ?_⟩
    · exfalso
      cases l with
      | nil => simp at hl
      | cons i l =>
        have hi := hlt i (List.mem_cons_self ..)
        have h2 := (hc i hi).1 (List.mem_cons_self ..)
        unfold linB at hlin
        simp only [Bool.and_eq_true, List.all_eq_true, Bool.not_eq_true'] at hlin
        have : i ∈ Region.ready .any ops listed := ready_of_listed hi h2 fun d hd => by
          have hdo := hdl i hi d hd
          have hn := hlin.1 d hd
          have hnm : d ∉ i :: l := fun hmem => by rw [List.contains_iff_mem.2 hmem] at hn; cases hn
          have h3 : ¬ listed.getD d true = false := fun e => hnm ((hc d hdo).2 e)
          have hds : d < listed.size := by omega
          simp only [Array.getD_eq_getD_getElem?, Array.getElem?_eq_getElem hds, Option.getD_some] at h3 ⊢
          simpa using h3
        rw [hr] at this
        cases this
    · obtain ⟨h1, h2, h3⟩ := listed_of_ready hi
      have hil : i ∈ l := (hc i h1).2 h2
      have hdeps : ∀ n, ∀ j, j < n → j < ops.size → (∀ d ∈ dirs ops j, listed.getD d false = true) → ∀ k ∈ tab.getD j [], listed.getD k false = true := by
        intro n
        induction n with
        | zero => intro j hj; omega
        | succ n ih =>
          intro j hj hjs hd k hk
          unfold tabB at ht
          simp only [List.all_eq_true, List.mem_range] at ht
          have := ht j hjs k hk
          simp only [Bool.or_eq_true, List.any_eq_true, Bool.and_eq_true, decide_eq_true_eq] at this
          rcases this with h | ⟨d, hdm, hdj, hkd⟩
          · exact hd k (List.contains_iff_mem.1 h)
          · have hds := hdl j hjs d hdm
            have hdd : listed.getD d true = true := by
              have := hd d hdm
              have hdz : d < listed.size := by omega
              simp only [Array.getD_eq_getD_getElem?, Array.getElem?_eq_getElem hdz, Option.getD_some] at this ⊢
              exact this
            exact ih d (by omega) hds (hdown d hds hdd) k (List.contains_iff_mem.1 hkd)
      have hready : ∀ j ∈ l, (tab.getD i []).contains j = false := fun j hj => by
        cases hcon : (tab.getD i []).contains j with
        | false => rfl
        | true =>
          have := hdeps (i + 1) i (Nat.lt_succ_self i) h1 h3 j (List.contains_iff_mem.1 hcon)
          have hjn := (hc j (hlt j hj)).1 hj
          have hjz : j < listed.size := by have := hlt j hj; omega
          simp only [Array.getD_eq_getD_getElem?, Array.getElem?_eq_getElem hjz, Option.getD_some] at this hjn
          rw [this] at hjn; cases hjn
      obtain ⟨o, ho, hst⟩ := hX l i tm M H ⟨g, w, hS⟩ hA hnd hil hready
      have hrec : ∀ (tm' : Tm) (M' : Mem) (H' : Heap) (w' : World), M0.le M' → St g M' H' w' → X (l.erase i) tm' M' H' → wpAnyIn (fw ro.ro) 0 P .any ops (lift ro.fx g M0 Q) fuel (listed.setIfInBounds i true) (act g.ds tm') w' := by
        intro tm' M' H' w' hM' hS' hA'
        have hget : ∀ (k : Nat) (df : Bool), k < ops.size → (listed.setIfInBounds i true).getD k df = if i = k then true else listed.getD k df := fun k df hk => by
          have hkz : k < listed.size := by omega
          simp only [Array.getD_eq_getD_getElem?, Array.getElem?_setIfInBounds]
          split
          · rename_i e; subst e; simp [hkz]
          · rfl
        refine AT.any hX h0 ht fuel (l.erase i) _ tm' M' H' g M0 w' (by rw [List.length_erase_of_mem hil]; omega) (by simpa using hsz) (fun k hk => ?_) (fun k hk => hlt k (List.mem_of_mem_erase hk)) (hnd.erase i) (linB_erase hlin i) (fun k hk hkt d hd => ?_) hdl hA' hM' hS'
        · rw [hget k true hk, hnd.mem_erase_iff]
          by_cases e : i = k
          · subst e; simp
          · rw [if_neg e, hc k hk]; exact ⟨fun h => h.2, fun h => ⟨fun e' => e e'.symm, h⟩⟩
        · rw [hget k true hk] at hkt
          rw [hget d false (hdl k hk d hd)]
          split
          · rfl
          · by_cases e : i = k
            · subst e; exact h3 d hd
            · rw [if_neg e] at hkt; exact hdown k hk hkt d hd
      unfold wpOpIn
      simp only [ho]
      unfold ST at hst
      have hw : yielded ops (act g.ds tm).tmps = yielded ops tm.toArray := rfl
      rw [hw]
      split
      · rename_i hwa
        rw [if_pos hwa] at hst
        refine opIn_mono (fun a w' hh => ?_) (fun _ _ _ h => h.elim) (hst g w hS)
        obtain ⟨tm', M', H', rfl, hM', hS', hk⟩ := hh
        exact hrec tm' M' H' w' (hM.trans hM') hS' hk
      · rename_i hwa
        rw [if_neg hwa] at hst
        refine ⟨fun _ _ => trivial, ?_⟩
        rw [put_act]
        exact hrec _ M H w hM hS hst
/-- A region whose order is open: a family X that can take what is ready. -/
theorem AW.regionX {id : Nat} {l0 : List Oper} {tab : List (List Nat)} {X : List Nat → Tm → Mem → Heap → Prop} (hx : P.follows .mixedOrders = true)
    (hX : ∀ (l : List Nat) (i : Nat) (tm : Tm) (M : Mem) (H : Heap), (∃ g w, St g M H w) → X l tm M H → l.Nodup → i ∈ l → (∀ j ∈ l, (tab.getD i []).contains j = false) → ∃ o, l0.toArray[i]? = some o ∧ ST P ro l0.toArray o tm M H (X (l.erase i)))
    (h0 : ∀ tm M H, X [] tm M H → outQ Q tm M H) (m : Bool) (l : List Nat) (c2 : linB l0.toArray l = true) (c3 : tabB l0.toArray tab = true) (c4 : l.length = l0.toArray.size) (c5 : ∀ x < l0.toArray.size, l.contains x = true)
    (c7 : ∀ x < l0.toArray.size, ∀ d ∈ dirs l0.toArray x, d < l0.toArray.size) (c8 : ndB l = true) (c9 : ∀ x ∈ l, x < l0.toArray.size) (h : X l tm M H) : AW P ro (.region id l0.toArray true) Q tm M H := fun g w hS => by
  refine wpIn_region_any hx ?_
  have hmem : ∀ i, i < l0.toArray.size → i ∈ l := fun i hi => List.contains_iff_mem.1 (c5 i hi)
  refine AT.any (tab := tab) hX h0 c3 l0.toArray.size l _ tm M H g M _ c4 (by simp) (fun i hi => ?_) c9 (ndB_nodup c8) c2 (fun i hi hit => ?_) c7 h (.refl M) (hS.drewn _)
  · refine ⟨fun _ => ?_, fun _ => hmem i hi⟩
    have hi' : i < l0.length := by simpa using hi
    simp [Array.getD, hi']
  · have hi' : i < l0.length := by simpa using hi
    simp [Array.getD, hi'] at hit
/-- A region whose order is open, walked in one order. -/
theorem AW.regionD {id : Nat} {l0 : List Oper} (hx : P.follows .mixedOrders = true) (m : Bool) (l : List Nat) (tab : List (List Nat)) (hc : chk l0.toArray m l tab = true) (h : AT P ro l0.toArray m (outQ Q) l tm M H) : AW P ro (.region id l0.toArray true) Q tm M H := by
  unfold chk at hc
  simp only [Bool.and_eq_true, beq_iff_eq, List.all_eq_true, List.mem_range, Bool.or_eq_true, decide_eq_true_eq] at hc
  obtain ⟨⟨⟨⟨⟨⟨⟨⟨c1, c2⟩, c3⟩, c4⟩, c5⟩, c6⟩, c7⟩, c8⟩, c9⟩ := hc
  have hm : m = true ∨ ∀ (i : Nat) (o : Oper), l0.toArray[i]? = some o → isEv o.op = false := by
    rcases c6 with h | h
    · exact .inl h
    · right
      intro i o ho
      have := Array.all_eq_true'.1 h o (Array.mem_of_getElem? ho)
      simpa using this
  refine AW.regionX (tab := tab) (X := fun l tm M H => sepB l0.toArray tab (fun _ _ => false) l = true ∧ AT P ro l0.toArray m (outQ Q) l tm M H) hx (fun l i tm M H _ hA hnd hi hr => ?_) (fun _ _ _ h => h.2) m l c2 c3 c4 c5 c7 c8 c9 ⟨c1, h⟩
  obtain ⟨o, ho, hst, _⟩ := AT.first hm hA.1 hnd hi (fun j hj => ⟨rfl, hr j hj⟩) hA.2
  exact ⟨o, ho, hst.mono fun _ _ _ _ h => ⟨sepB_erase hA.1 i, h⟩⟩
theorem PVG.uniq {o : Oper} {v v' : Value} (hw : ∃ g w, St g M H w) (h : PVG P ops o tm M H true v) (h' : PVG P ops o tm M H true v') : v = v' := by
  obtain ⟨g, w, hS⟩ := hw
  rcases h with ⟨a, b⟩ | ⟨a, b⟩ <;> rcases h' with ⟨a', b'⟩ | ⟨a', b'⟩
  · have h1 := (show PVM P o tm M v by simpa using b).2 w hS.mem
    have h2 := (show PVM P o tm M v' by simpa using b').2 w hS.mem
    rw [h1] at h2; cases h2; rfl
  · rw [a] at a'; cases a'
  · rw [a] at a'; cases a'
  · rw [b, b']
/-- Two events a, b in either order: two walks. All other events lean on both. -/
def chk2 (ops : Array Oper) (a b : Nat) (l l' : List Nat) (tab : List (List Nat)) : Bool :=
  sepB ops tab (fun i j => i == a && j == b) l && sepB ops tab (fun i j => i == b && j == a) l' && linB ops l && tabB ops tab && l.length == ops.size && (List.range ops.size).all (fun i => l.contains i) && (List.range ops.size).all (fun j => (dirs ops j).all fun d => d < ops.size) && ndB l && l.all (fun i => i < ops.size)
    && ndB l' && l'.all (fun i => l.contains i) && l.all (fun i => l'.contains i) && l.all (fun i => (match ops[i]? with | some o => !isEv o.op | none => false) || i == a || i == b || ((tab.getD i []).contains a && (tab.getD i []).contains b)) && l.contains a && l.contains b && (a != b)
theorem AW.regionD2 {id : Nat} {l0 : List Oper} (hx : P.follows .mixedOrders = true) (a b : Nat) (l l' : List Nat) (tab : List (List Nat)) (hc : chk2 l0.toArray a b l l' tab = true) (h : AT P ro l0.toArray true (outQ Q) l tm M H) (h' : AT P ro l0.toArray true (outQ Q) l' tm M H) : AW P ro (.region id l0.toArray true) Q tm M H := by
  unfold chk2 at hc
  simp only [Bool.and_eq_true, beq_iff_eq, List.all_eq_true, List.mem_range, Bool.or_eq_true, decide_eq_true_eq, bne_iff_ne] at hc
  obtain ⟨⟨⟨⟨⟨⟨⟨⟨⟨⟨⟨⟨⟨⟨⟨c1, c1'⟩, c2⟩, c3⟩, c4⟩, c5⟩, c7⟩, c8⟩, c9⟩, d1⟩, d2⟩, d3⟩, d4⟩, d5⟩, d6⟩, d7⟩ := hc
  let X : List Nat → Tm → Mem → Heap → Prop := fun l tm M H =>
    (∃ l1, (∀ i, i ∈ l ↔ i ∈ l1) ∧ l1.Nodup ∧ sepB l0.toArray tab (fun _ _ => false) l1 = true ∧ AT P ro l0.toArray true (outQ Q) l1 tm M H) ∨
    ∃ l1 l2, (∀ i, i ∈ l ↔ i ∈ l1) ∧ (∀ i, i ∈ l ↔ i ∈ l2) ∧ l1.Nodup ∧ l2.Nodup ∧ sepB l0.toArray tab (fun i j => i == a && j == b) l1 = true ∧ sepB l0.toArray tab (fun i j => i == b && j == a) l2 = true ∧
      (∀ i ∈ l, (match l0.toArray[i]? with | some o => isEv o.op = false | none => False) ∨ i = a ∨ i = b ∨ ((tab.getD i []).contains a = true)) ∧ a ∈ l ∧ b ∈ l ∧ AT P ro l0.toArray true (outQ Q) l1 tm M H ∧ AT P ro l0.toArray true (outQ Q) l2 tm M H
  have me : ∀ {l l1 : List Nat} (i : Nat), l.Nodup → l1.Nodup → (∀ i, i ∈ l ↔ i ∈ l1) → ∀ k, k ∈ l.erase i ↔ k ∈ l1.erase i := fun i h1 h2 h k => by rw [h1.mem_erase_iff, h2.mem_erase_iff, h k]
  have hfalse : ∀ {l1 : List Nat} {p q : Nat}, l1.Nodup → sepB l0.toArray tab (fun i j => i == p && j == q) l1 = true → sepB l0.toArray tab (fun _ _ => false) (l1.erase p) = true := fun {l1 p q} hn hs =>
    sepB_mono (fun i hi j hj he => by
      simp only [Bool.and_eq_true, beq_iff_eq] at he
      rw [he.1, hn.mem_erase_iff] at hi
      exact absurd rfl hi.1) (sepB_erase hs p)
  refine AW.regionX (tab := tab) (X := X) hx (fun l i tm M H hw hA hnd hi hr => ?_) (fun tm M H hA => ?_) true l c2 c3 c4 c5 c7 c8 c9 (.inr ⟨l, l', fun i => Iff.rfl, fun i => ⟨fun hi => List.contains_iff_mem.1 (d3 i hi), fun hi => List.contains_iff_mem.1 (d2 i hi)⟩, ndB_nodup c8, ndB_nodup d1, c1, c1', fun i hi => ?_, List.contains_iff_mem.1 d5, List.contains_iff_mem.1 d6, h, h'⟩)
  · rcases hA with ⟨l1, e1, n1, s1, A1⟩ | ⟨l1, l2, e1, e2, n1, n2, s1, s2, ot, ha, hb, A1, A2⟩
    · obtain ⟨o, ho, hst, _⟩ := AT.first (.inl rfl) s1 n1 ((e1 i).1 hi) (fun j hj => ⟨rfl, hr j ((e1 j).2 hj)⟩) A1
      exact ⟨o, ho, hst.mono fun _ _ _ _ h => .inl ⟨l1.erase i, me i hnd n1 e1, n1.erase i, sepB_erase s1 i, h⟩⟩
    · by_cases ia : i = a
      · subst ia
        obtain ⟨o, ho, hst, _⟩ := AT.first (.inl rfl) s1 n1 ((e1 i).1 hi) (fun j hj => ⟨by simp [d7], hr j ((e1 j).2 hj)⟩) A1
        exact ⟨o, ho, hst.mono fun _ _ _ _ h => .inl ⟨l1.erase i, me i hnd n1 e1, n1.erase i, hfalse n1 s1, h⟩⟩
      by_cases ib : i = b
      · subst ib
        obtain ⟨o, ho, hst, _⟩ := AT.first (.inl rfl) s2 n2 ((e2 i).1 hi) (fun j hj => ⟨by simp; intro _ e; exact d7 e.symm, hr j ((e2 j).2 hj)⟩) A2
        exact ⟨o, ho, hst.mono fun _ _ _ _ h => .inl ⟨l2.erase i, me i hnd n2 e2, n2.erase i, hfalse n2 s2, h⟩⟩
      obtain ⟨o, ho, _, p1⟩ := AT.first (.inl rfl) s1 n1 ((e1 i).1 hi) (fun j hj => ⟨by simp [ib], hr j ((e1 j).2 hj)⟩) A1
      obtain ⟨o', ho', _, p2⟩ := AT.first (.inl rfl) s2 n2 ((e2 i).1 hi) (fun j hj => ⟨by simp [ia], hr j ((e2 j).2 hj)⟩) A2
      rw [ho] at ho'; cases ho'
      rcases ot i hi with hp | hp | hp | hp
      · rw [ho] at hp
        obtain ⟨v, hv, k1⟩ := p1 hp
        obtain ⟨v', hv', k2⟩ := p2 hp
        obtain rfl := PVG.uniq hw hv hv'
        exact ⟨o, ho, ST.ofG hv (.inr ⟨l1.erase i, l2.erase i, me i hnd n1 e1, me i hnd n2 e2, n1.erase i, n2.erase i, sepB_erase s1 i, sepB_erase s2 i, fun k hk => ot k (List.mem_of_mem_erase hk), hnd.mem_erase_iff.2 ⟨fun e => ia e.symm, ha⟩, hnd.mem_erase_iff.2 ⟨fun e => ib e.symm, hb⟩, k1, k2⟩)⟩
      · exact absurd hp ia
      · exact absurd hp ib
      · rw [hr a ha] at hp; cases hp
  · rcases hA with ⟨l1, e1, n1, s1, A1⟩ | ⟨l1, l2, e1, e2, n1, n2, s1, s2, ot, ha, hb, A1, A2⟩
    · have : l1 = [] := List.eq_nil_iff_forall_not_mem.2 fun i hi => by have := (e1 i).2 hi; simp at this
      subst this; exact A1
    · simp at ha
  · rcases d4 i hi with ((h | h) | h) | h
    · left
      split at h
      · simpa using h
      · cases h
    · exact .inr (.inl h)
    · exact .inr (.inr (.inl h))
    · exact .inr (.inr (.inr h.1))
end
end Go.Proofs.YtieaiheejhmbfaaGreatDoor.ML
/- The abstract layer: rows of the call's own (made, appended to, written), structs, conversions. No conditions. -/
namespace Go.Proofs.YtieaiheejhmbfaaGreatDoor.ML
open Go.RowKit
set_option linter.unusedVariables false
set_option linter.unusedSimpArgs false
section
variable {P : Program}
def apB (P : Program) (T E z b : Nat) : Bool := match P.underlying T, P.info? E with
  | some (.slice e), some i => e == E && i.size == z && i.bytes == b && decide (0 < z) && (match i.zero with | some zv => zv.cells.size == z | none => false)
  | _, _ => false
class Ap (P : Program) (T : TypeId) (E z b : outParam Nat) : Prop where out : apB P T E z b = true
theorem Ap.parts {T E z b : Nat} [h : Ap P T E z b] : ∃ i zv, P.underlying T = some (.slice E) ∧ P.info? E = some i ∧ i.zero = some zv ∧ i.size = z ∧ i.bytes = b ∧ zv.cells.size = z ∧ 0 < z := by
  have := h.out
  unfold apB at this
  split at this
  · rename_i e i he hi
    simp only [Bool.and_eq_true, beq_iff_eq, decide_eq_true_eq] at this
    obtain ⟨⟨⟨⟨h1, h2⟩, h3⟩, h4⟩, h5⟩ := this
    subst h1
    split at h5
    · rename_i zv hz
      exact ⟨i, zv, he, hi, hz, h2, h3, by simpa using h5, h4⟩
    · cases h5
  · cases this
variable {ro : RO} {ops : Array Oper} {Q : Post} {rest : List Oper} {tm : Tm} {M : Mem} {H : Heap} {K : Tm → Mem → Heap → Prop} {gd : Option (Nat × Bool)}
variable {d : Option Tmp} {ty : TypeId} {pos : String} {aft : Array Edge} {x y : Operand} {T T' : TypeId} {k k' : IntKind} {i j : Int}
theorem St.grow {g : GW} {w w' : World} {M : Mem} {H : Heap} {A : Option Addr} {n c : Nat} {T : TypeId} {z : Nat} {vs : List Value} {A' : Option Addr} {n' c' : Nat} {vs' : List Value} (hS : St g M (.row A n c T z vs :: H) w)
    (hg : w.grownBy w' (Value.ownBlock (.slice A n c))) (ho : w'.ownsRow 0 T z (.slice A' n' c') n' vs') (hA : ∀ b, (Value.slice A' n' c').ownBlock = some b → (Value.slice A n c).ownBlock = some b ∨ w.heap.size ≤ b) : St g M (.row A' n' c' T z vs' :: H) w' := by
  have hfp : ∀ (A : Option Addr) (n c : Nat) (vs : List Value), ∀ b, b ∈ (Ent.row A n c T z vs).fp ↔ (Value.slice A n c).ownBlock = some b := fun A n c vs b => by
    cases A with
    | none => simp [Ent.fp, Value.ownBlock]
    | some a => simp [Ent.fp, Value.ownBlock]; exact eq_comm
  refine St.turn (E := [.row A n c T z vs]) _ hS hg.os hg.tape hg.output hg.size ho (fun k hk hne => hg.block k hk (fun e => ?_)) (fun b hb => ?_) ?_
  · refine hne ?_
    rw [fps_cons]
    exact List.mem_append_left _ ((hfp ..).2 e.symm)
  · rcases hA b ((hfp ..).1 hb) with h | h
    · exact .inl (by rw [fps_cons]; exact List.mem_append_left _ ((hfp ..).2 h))
    · exact .inr h
  · cases A' <;> simp [Ent.fp]
/-- append of what lies in cells that are known. -/
theorem AS.append {A : Option Addr} {n c E z b m cc b1 o1 r : Nat} {vs us : List Value} [Ap P T E z b] (hx : ev tm x = .slice A n c) (hy : ev tm y = .slice (some ⟨b1, o1, none⟩) m cc)
    (hr : H[r]? = some (.row A n c E z vs)) (hu : us.length = m * z) (hc : Cels M H b1 o1 us) (h1 : ∀ u ∈ us, u.oneCell' = true) (hl : (n + m) * b ≤ 140737488355328) (hl2 : n + m ≤ 9223372036854775807)
    (h : ∀ A' c', K (putL tm d (.slice A' (n + m) c')) M (H.set r (.row A' (n + m) c' E z (vs ++ us)))) : AS P ro ⟨d, .call ⟨.builtin .append, #[x, y], #[T, T]⟩, ty, pos, aft, gd⟩ tm M H K :=
  AS.val rfl fun g w hS => by
    obtain ⟨i, zv, hu', hi, hz, hs, hb, hzs, h0⟩ := Ap.parts (P := P) (T := T) (E := E) (z := z) (b := b)
    have hS1 := hS.at hr
    have hown : w.ownsRow 0 E z (.slice A n c) n vs := hS1.own _ (List.mem_cons_self ..)
    obtain ⟨v', w', hrun, hown', hgrow, hnil⟩ := run_append_own (P := P) w 0 T ty E i zv z b hu' hi hz hs hb hzs h0 _ n vs hown ⟨b1, o1, none⟩ m cc us hu (fun j u hj => by rw [add_addr]; exact hS.cel (hc.get j u hj)) h1 (by unfold maxLen; omega) hl (Nat.zero_le _)
    obtain ⟨A', c', rfl⟩ : ∃ A' c', v' = .slice A' (n + m) c' := by
      rcases hown'.2 with ⟨e, e2⟩ | ⟨g1, cap, cur, e, _⟩
      · rw [e2]; exact ⟨none, 0, e⟩
      · exact ⟨_, _, e⟩
    refine ⟨_, w', M, _, ?_, .refl M, St.back (List.getElem?_eq_some_iff.1 hr).1 (St.grow hS1 hgrow hown' fun b' hb' => ?_), h A' c'⟩
    · simp only [execOp, resolve, Sem.run_bind, Sem.run_pure, Result.andThen_ok, invoke, builtin]
      simp [hx, hy, hrun]
    · subst hs; subst hb
      rcases hown.2 with ⟨e, e2⟩ | ⟨g1, cap, cur, e, _, hg1, hnc, _, _, _⟩
      · cases e
        clear e2
        by_cases hm : m = 0
        · subst hm
          rw [(hnil.2 ⟨rfl, rfl⟩)] at hb'
          cases hb'
        · have hr2 := run_append_nil (P := P) w T ty E i zv hu' hi hz ⟨b1, o1, none⟩ m cc us hu (fun j u hj => by rw [add_addr]; exact hS.cel (hc.get j u hj)) (by omega) (by omega) (by rw [Nat.zero_add] at hl; omega)
          simp only [Nat.zero_add] at hrun hb'
          rw [hr2] at hrun
          cases hrun
          right
          cases hb'
          exact Nat.le_refl _
      · cases e
        by_cases hroom : n + m ≤ c
        · obtain ⟨w2, hr2, _⟩ := run_append_fits (P := P) w 0 T ty E i i.size hu' hi rfl g1 n c vs hown ⟨b1, o1, none⟩ m cc us hu (fun j u hj => by rw [add_addr]; exact hS.cel (hc.get j u hj)) h1 hroom
          rw [hr2] at hrun
          cases hrun
          exact .inl hb'
        · have hr2 := run_append_grow (P := P) w T ty E i zv hu' hi hz ⟨g1, 0, none⟩ n c vs hown.1 (hown.cells (g := g1) rfl) ⟨b1, o1, none⟩ m cc us hu (fun j u hj => by rw [add_addr]; exact hS.cel (hc.get j u hj)) (by omega) (by omega) (growslice_fits (by omega) hl)
          rw [hr2] at hrun
          cases hrun
          right
          cases hb'
          exact Nat.le_refl _
/-- append of nothing. -/
theorem AS.append0 {A : Option Addr} {n c E z b r : Nat} {vs : List Value} [Ap P T E z b] (hx : ev tm x = .slice A n c) (hy : ev tm y = .slice none 0 0)
    (hr : H[r]? = some (.row A n c E z vs)) (h : K (putL tm d (.slice A n c)) M H) : AS P ro ⟨d, .call ⟨.builtin .append, #[x, y], #[T, T]⟩, ty, pos, aft, gd⟩ tm M H K :=
  AS.val rfl fun g w hS => by
    obtain ⟨i, zv, hu', hi, hz, hs, hb, hzs, h0⟩ := Ap.parts (P := P) (T := T) (E := E) (z := z) (b := b)
    have hown : w.ownsRow 0 E z (.slice A n c) n vs := (hS.at hr).own _ (List.mem_cons_self ..)
    have hrun := run_append_owned_none (P := P) w 0 T ty E i z hu' hi _ n vs hown
    refine ⟨_, w, M, _, ?_, .refl M, hS, h⟩
    simp only [execOp, resolve, Sem.run_bind, Sem.run_pure, Result.andThen_ok, invoke, builtin]
    simp [hx, hy, hrun]
theorem AS.makeSlice {n E z b : Nat} {zv : Value} [Ap P T E z b] [hzr : Zr P E zv] (hx : ev tm x = .int k n) (hy : ev tm y = .int k' n) (hl : b * n ≤ 281474976710656) (hl2 : n ≤ 9223372036854775807)
    (h : ∀ g, K (putL tm d (.slice (some ⟨g, 0, none⟩) n n)) M (.row (some ⟨g, 0, none⟩) n n E z (madeCells zv.cells (n * z)).toList :: H)) : AS P ro ⟨d, .makeSlice T x y, ty, pos, aft, gd⟩ tm M H K :=
  AS.val rfl fun g w hS => by
    obtain ⟨i, zv', hu', hi, hz, hs, hb, hzs, h0⟩ := Ap.parts (P := P) (T := T) (E := E) (z := z) (b := b)
    have hzz := hzr.out
    rw [hi] at hzz
    simp only [Option.map_some, Option.some.injEq] at hzz
    rw [hz] at hzz
    cases hzz
    obtain ⟨w', hrun, hown, hgrow⟩ := run_make_full (P := P) w 0 T E i zv z hu' hi hz hs k k' n (by rw [hb]; exact hl) (by unfold maxLen; omega) (Nat.zero_le _)
    refine ⟨_, w', M, _, ?_, .refl M, ?_, h w.heap.size⟩
    · simp only [execOp, hx, hy]
      exact run_v hrun
    · refine St.turn (E := []) _ hS hgrow.os hgrow.tape hgrow.output hgrow.size hown (fun k hk _ => hgrow.block k hk (by simp)) (fun k hk => ?_) (by simp [Ent.fp])
      simp [Ent.fp] at hk
      subst hk
      exact .inr (Nat.le_refl _)
theorem take_set_succ {α : Type} : ∀ (l : List α) (p : Nat) (u : α), p < l.length → (l.set p u).take (p + 1) = l.take p ++ [u]
  | [], _, _, h => by simp at h
  | x :: l, 0, u, _ => by simp
  | x :: l, p + 1, u, h => by simp [take_set_succ l p u (by simpa using h)]
theorem fill_key (z : Nat) : ∀ (us : List Value) (p : Nat) (a : Array Value), p + us.length = a.size → (us.zipIdx p).foldl (fun cs (x : Value × Nat) => cs.setIfInBounds (0 * z + x.2) x.1) a = (a.toList.take p ++ us).toArray
  | [], p, a, h => by
    have : a.toList.take p = a.toList := List.take_of_length_le (by simp at h ⊢; omega)
    simp [this]
  | u :: us, p, a, h => by
    simp only [List.length_cons] at h
    rw [List.zipIdx_cons, List.foldl_cons, fill_key z us (p + 1) _ (by simp; omega)]
    have : (a.setIfInBounds (0 * z + p) u).toList.take (p + 1) = a.toList.take p ++ [u] := by
      rw [Array.toList_setIfInBounds, Nat.zero_mul, Nat.zero_add, take_set_succ _ _ _ (by simp; omega)]
    rw [this]
    simp
theorem fill_all (z : Nat) (us : List Value) (a : Array Value) (h : us.length = a.size) : us.toArray.zipIdx.foldl (fun cs (x : Value × Nat) => cs.setIfInBounds (0 * z + x.2) x.1) a = us.toArray := by
  have := fill_key z us 0 a (by omega)
  rw [← Array.foldl_toList]
  simpa using this
/-- A slice literal of one element. -/
theorem AS.lit1 {E z b : Nat} {v : Value} {us : List Value} [Ap P T E z b] (hx : ev tm x = v) (hu : v.cells.toList = us) (hn : us.length = z) (hz24 : z ≤ 16777216)
    (h : ∀ g, K (putL tm d (.slice (some ⟨g, 0, none⟩) 1 1)) M (.blk g (.cells us.toArray E (0, 0)) :: H)) : AS P ro ⟨d, .buildSlice T 1 #[(0, x)], ty, pos, aft, gd⟩ tm M H K :=
  AS.val rfl fun g w hS => by
    obtain ⟨i, zv, hu', hi, hz, hs, hb, hzs, h0⟩ := Ap.parts (P := P) (T := T) (E := E) (z := z) (b := b)
    have hv : v.cells = us.toArray := by rw [← hu]
    refine ⟨.slice (some ⟨w.heap.size, 0, none⟩) 1 1, w.alloc (.cells us.toArray E (0, 0)), M, _, ?_, .refl M, hS.alloc _, h _⟩
    have hfill : Instr.fill (fun i => some (i * z, z)) ((Array.range (1 * z)).map (fun k => zv.cells[k % zv.cells.size]!)) [(0, v)] = some us.toArray := by
      simp only [Instr.fill, hv]
      rw [if_neg (by simp [hn])]
      have := fill_all z us ((Array.range (1 * z)).map (fun k => zv.cells[k % zv.cells.size]!)) (by simp [hn])
      simpa using this
    simp only [execOp]
    refine run_v ?_
    have h24 : ¬ (1 * z > 2 ^ 24) := by omega
    have hne : ¬ (1 * z = 0) := by omega
    simp only [Instr.buildSlice, Sem.run_bind, run_underlying hu', Result.andThen_ok, sizeOf, run_typeInfo hi, Sem.run_pure, hs, h24, if_false, hne, zeroValue, hz]
    have hp : (Array.map (fun x : Nat × Operand => (x.fst, ev tm x.snd)) #[(0, x)]).toList = [(0, v)] := by simp [hx]
    rw [hp, hfill]
    rfl
/-! ### Structs -/
class Pl (P : Program) (T : TypeId) (places : outParam (List (Nat × Nat))) (zero : outParam (Array Value)) : Prop where
  out : (match P.underlying T, P.info? T with
    | some (.struct fs), some i => i.zero = some (.agg zero) ∧ fs.toList.mapM (fun f => (P.info? f.type).map fun i => (f.offset, i.size)) = some places
    | _, _ => False)
theorem PV.build {places : List (Nat × Nat)} {zero cells : Array Value} {ps : Array (Nat × Operand)} [h : Pl P T places zero] (hf : Instr.fill (fun i => places[i]?) zero (ps.toList.map fun p => (p.1, ev tm p.2)) = some cells) : PVM P ⟨d, .build T ps, ty, pos, aft, gd⟩ tm M (.agg cells) :=
  .mk rfl (fun w => by
    have := h.out
    split at this
    · rename_i fs i hu hi
      obtain ⟨hz, hp⟩ := this
      simp only [execOp]
      refine run_v (run_build w T _ cells ?_)
      have he : (Array.map (fun x : Nat × Operand => (x.fst, ev tm x.snd)) ps).toList = ps.toList.map fun p => (p.1, ev tm p.2) := by simp
      unfold Program.built
      simp only [hi, hu, hz, hp, he]
      simpa [Value.cells] using hf
    · exact this.elim)
/-! ### Conversions and the rest -/
theorem PV.conv {a : Int} [h1 : It P T k] [h2 : It P T' k'] (hx : ev tm x = .int k a) : PVM P ⟨d, .convert T T' x, ty, pos, aft, gd⟩ tm M (.int k' (k'.wrap a)) :=
  .mk rfl (fun w => by simp only [execOp, hx]; exact run_v (by simp [convert, run_underlying h1.out, run_underlying h2.out, Conv.intToInt]))
theorem PV.conv64 {a : Int} [h1 : It P T k] [h2 : It P T' .i64] (hx : ev tm x = .int k a) (hb : -9223372036854775808 ≤ a ∧ a ≤ 9223372036854775807) : PVM P ⟨d, .convert T T' x, ty, pos, aft, gd⟩ tm M (.int .i64 a) := by
  have := PV.conv (P := P) (M := M) (d := d) (ty := ty) (pos := pos) (aft := aft) (gd := gd) (T := T) (T' := T') hx
  rwa [wrap64_in hb] at this
theorem PV.convS {s : ByteArray} [h1 : Str P T] [h2 : Str P T'] (hx : ev tm x = .string s) : PVM P ⟨d, .convert T T' x, ty, pos, aft, gd⟩ tm M (.string s) :=
  .mk rfl (fun w => by simp only [execOp, hx]; exact run_v (by simp [convert, run_underlying h1.out, run_underlying h2.out]))
theorem PV.nilCheck {b o : Nat} (hx : ev tm x = .pointer (some ⟨b, o, none⟩)) : PVM P ⟨d, .nilCheck x, ty, pos, aft, gd⟩ tm M (.pointer (some ⟨b, o, none⟩)) :=
  .mk rfl (fun w => by simp only [execOp, hx]; rfl)
theorem PV.nilCheckF {f : Nat} {fst cap : Array Value} (hx : ev tm x = .func (.func f) fst cap) : PVM P ⟨d, .nilCheck x, ty, pos, aft, gd⟩ tm M (.func (.func f) fst cap) :=
  .mk rfl (fun w => by simp only [execOp, hx]; rfl)
theorem PV.min {a b : Int} {ts : Array TypeId} (hx : ev tm x = .int k a) (hy : ev tm y = .int k b) : PVM P ⟨d, .call ⟨.builtin .min, #[x, y], ts⟩, ty, pos, aft, gd⟩ tm M (.int k (if b < a then b else a)) :=
  .mk rfl (fun w => by simp [execOp, resolve, hx, hy, invoke, builtin, Builtin.min_, Builtin.min2])
theorem PV.max {a b : Int} {ts : Array TypeId} (hx : ev tm x = .int k a) (hy : ev tm y = .int k b) : PVM P ⟨d, .call ⟨.builtin .max, #[x, y], ts⟩, ty, pos, aft, gd⟩ tm M (.int k (if b > a then b else a)) :=
  .mk rfl (fun w => by simp [execOp, resolve, hx, hy, invoke, builtin, Builtin.max_, Builtin.max2])
end
end Go.Proofs.YtieaiheejhmbfaaGreatDoor.ML
