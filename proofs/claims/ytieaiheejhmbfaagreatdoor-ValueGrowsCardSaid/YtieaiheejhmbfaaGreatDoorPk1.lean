/- An abstract layer over the walks: states are own blocks and memory that stays as it is; no conditions. -/
import Derived.RangeFuncCalls
import Derived.TacticsIn
import Derived.OrdersIn
import Derived.Laws.World
import Derived.Below
import Derived.LoopNIn
import Derived.Laws.AppendOwn
import Derived.Laws.OwnMore
import Derived.Laws.MakeOwn
import Derived.Laws.Bits
import Derived.IntWalk
import Derived.Lib.Strings
import Derived.Laws.Cells
namespace Go.Proofs.YtieaiheejhmbfaaGreatDoor.ML
open Go.RowKit
set_option linter.unusedVariables false

abbrev Mem := Nat → Option Obj
def Mem.le (M N : Mem) : Prop := ∀ b o, M b = some o → N b = some o
theorem Mem.le.refl (M : Mem) : M.le M := fun _ _ h => h
theorem Mem.le.trans {A B C : Mem} (h : A.le B) (k : B.le C) : A.le C := fun b o e => k b o (h b o e)
/-- A map's entries stand for a function. -/
structure Rep (K : Value → Prop) (es : Array MapEntry) (m : Value → Option Value) : Prop where
  keys : ∀ e ∈ es.toList, K e.key
  nd : es.toList.Pairwise (fun x y => x.key ≠ y.key)
  mem : ∀ e ∈ es.toList, m e.key = some e.val
  dom : ∀ k v, m k = some v → ∃ e ∈ es.toList, e.key = k
/-- What a call owns: a block, a map, or the row of a slice value (nil too): its first cells. -/
inductive Ent where
  | blk (b : Nat) (o : Obj)
  | mp (b : Nat) (K : Value → Prop) (m : Value → Option Value)
  | row (A : Option Addr) (n c : Nat) (T : TypeId) (z : Nat) (vs : List Value)
abbrev Heap := List Ent
def Ent.fp : Ent → List Nat
  | .blk b _ => [b]
  | .mp b _ _ => [b]
  | .row A _ _ _ _ _ => (A.map (·.block)).toList
def Ent.ok (w : World) : Ent → Prop
  | .blk b o => w.heap[b]? = some o
  | .mp b K m => ∃ es clock, w.heap[b]? = some (.map es clock) ∧ Rep K es m
  | .row A n c T z vs => w.ownsRow 0 T z (.slice A n c) n vs
theorem Ent.ok_of {w w' : World} {e : Ent} (h : e.ok w) (hw : ∀ b ∈ e.fp, w'.heap[b]? = w.heap[b]?) : e.ok w' := by
  cases e with
  | blk b o => exact (hw b (by simp [Ent.fp])).trans h
  | mp b K m => obtain ⟨es, clock, h1, h2⟩ := h; exact ⟨es, clock, (hw b (by simp [Ent.fp])).trans h1, h2⟩
  | row A n c T z vs =>
    obtain ⟨hl, h | ⟨g, cap, cur, he, h0, h1, h2⟩⟩ := h
    · exact ⟨hl, .inl h⟩
    · cases he
      exact ⟨hl, .inr ⟨g, c, cur, rfl, h0, (hw g (by simp [Ent.fp])).trans h1, h2⟩⟩
theorem Ent.lt {w : World} {e : Ent} (h : e.ok w) : ∀ b ∈ e.fp, b < w.heap.size := by
  intro b hb
  cases e with
  | blk b' o => simp [Ent.fp] at hb; subst hb; exact (Array.getElem?_eq_some_iff.1 h).1
  | mp b' K m => simp [Ent.fp] at hb; subst hb; obtain ⟨es, clock, h1, h2⟩ := h; exact (Array.getElem?_eq_some_iff.1 h1).1
  | row A n c T z vs =>
    obtain ⟨hl, ⟨he, _⟩ | ⟨g, cap, cur, he, h0, h1, h2⟩⟩ := h
    · cases he; simp [Ent.fp] at hb
    · cases he; simp [Ent.fp] at hb; subst hb; exact (Array.getElem?_eq_some_iff.1 h1).1
def fps (H : Heap) : List Nat := H.flatMap Ent.fp

/-- What a judgement hangs on: the world where the walk began, and the activation's marks for the deferred calls of its ranges over functions. -/
structure GW where
  w : World
  ds : List Deferred
abbrev markD (D : Nat) : Deferred := { target := .collected D, args := #[] }
def DsOk (g : GW) (M : Mem) : Prop := g.ds.Nodup ∧ ∀ d ∈ g.ds, ∃ D, d = markD D ∧ g.w.heap.size ≤ D ∧ M D = some (.deferred (some []))
theorem DsOk.mono {g : GW} {M N : Mem} (h : DsOk g M) (hM : M.le N) : DsOk g N := ⟨h.1, fun d hd => let ⟨D, a, b, c⟩ := h.2 d hd; ⟨D, a, b, hM _ _ c⟩⟩
theorem DsOk.nil {w : World} {M : Mem} : DsOk ⟨w, []⟩ M := ⟨List.nodup_nil, fun d hd => by simp at hd⟩
structure St (g : GW) (M : Mem) (H : Heap) (w : World) : Prop where
  os : w.os = g.w.os
  tape : w.tape = g.w.tape
  output : w.output = g.w.output
  size : g.w.heap.size ≤ w.heap.size
  mem : ∀ b o, M b = some o → w.heap[b]? = some o
  own : ∀ e ∈ H, e.ok w
  nodup : (fps H).Nodup
  apart : ∀ b ∈ fps H, M b = none
  dsok : DsOk g M

theorem St.lt {g : GW} {w : World} {M : Mem} {H : Heap} (h : St g M H w) {b : Nat} (hp : b ∈ fps H) : b < w.heap.size := by
  obtain ⟨e, he, hb⟩ := List.mem_flatMap.1 hp
  exact Ent.lt (h.own e he) b hb
theorem St.mlt {g : GW} {w : World} {M : Mem} {H : Heap} (h : St g M H w) {b : Nat} {o : Obj} (hp : M b = some o) : b < w.heap.size := (Array.getElem?_eq_some_iff.1 (h.mem b o hp)).1
theorem St.drew {g : GW} {w : World} {M : Mem} {H : Heap} (h : St g M H w) : St g M H w.drew := ⟨h.os, h.tape, h.output, h.size, h.mem, fun e he => Ent.ok_of (h.own e he) fun _ _ => rfl, h.nodup, h.apart, h.dsok⟩
theorem St.drewn {g : GW} {w : World} {M : Mem} {H : Heap} (h : St g M H w) (n : Nat) : St g M H { w with drawn := n } := ⟨h.os, h.tape, h.output, h.size, h.mem, fun e he => Ent.ok_of (h.own e he) fun _ _ => rfl, h.nodup, h.apart, h.dsok⟩
theorem fps_cons (e : Ent) (H : Heap) : fps (e :: H) = e.fp ++ fps H := by simp [fps]
/-- The world changes where the first entry lies, or where nothing lay. -/
theorem St.turn {g : GW} {w w' : World} {M : Mem} {H : Heap} {E : List Ent} (e' : Ent) (h : St g M (E ++ H) w)
    (h1 : w'.os = w.os) (h2 : w'.tape = w.tape) (h3 : w'.output = w.output) (h4 : w.heap.size ≤ w'.heap.size) (h5 : e'.ok w')
    (h6 : ∀ k, k < w.heap.size → k ∉ fps E → w'.heap[k]? = w.heap[k]?) (h7 : ∀ k ∈ e'.fp, k ∈ fps E ∨ w.heap.size ≤ k) (h8 : e'.fp.Nodup) : St g M (e' :: H) w' := by
  have hsp : fps (E ++ H) = fps E ++ fps H := by simp [fps]
  have hnd := h.nodup
  rw [hsp, List.nodup_append] at hnd
  obtain ⟨n1, n2, n3⟩ := hnd
  have hM : ∀ b o, M b = some o → b ∉ fps E := fun b o hb hm => by
    have := h.apart b (by rw [hsp]; exact List.mem_append_left _ hm)
    rw [hb] at this; cases this
  have hHs : ∀ b ∈ fps H, b < w.heap.size := fun b hb => h.lt (by rw [hsp]; exact List.mem_append_right _ hb)
  have hHn : ∀ b ∈ fps H, b ∉ fps E := fun b hb hm => n3 b hm b hb rfl
  refine ⟨h1.trans h.os, h2.trans h.tape, h3.trans h.output, Nat.le_trans h.size h4, fun b o hb => ?_, fun e he => ?_, ?_, fun b hb => ?_, h.dsok⟩
  · rw [h6 b (h.mlt hb) (hM b o hb)]; exact h.mem b o hb
  · rcases List.mem_cons.1 he with rfl | he
    · exact h5
    · refine Ent.ok_of (h.own e (List.mem_append_right _ he)) fun b hb => ?_
      have hbf : b ∈ fps H := List.mem_flatMap.2 ⟨e, he, hb⟩
      exact h6 b (hHs b hbf) (hHn b hbf)
  · rw [fps_cons, List.nodup_append]
    refine ⟨h8, n2, fun a ha b hb hab => ?_⟩
    subst hab
    rcases h7 a ha with hk | hk
    · exact hHn a hb hk
    · have := hHs a hb; omega
  · rw [fps_cons] at hb
    rcases List.mem_append.1 hb with hb | hb
    · rcases h7 b hb with hk | hk
      · exact h.apart b (by rw [hsp]; exact List.mem_append_left _ hk)
      · cases hm : M b with
        | none => rfl
        | some o => have := h.mlt hm; omega
    · exact h.apart b (by rw [hsp]; exact List.mem_append_right _ hb)
theorem St.alloc {g : GW} {w : World} {M : Mem} {H : Heap} (h : St g M H w) (o : Obj) : St g M (.blk w.heap.size o :: H) (w.alloc o) :=
  St.turn (E := []) (.blk w.heap.size o) h rfl rfl rfl (by simp) (World.alloc_heap_new w o) (fun k hk _ => Below.heap_alloc w o k hk) (fun k hk => by simp [Ent.fp] at hk; subst hk; exact .inr (Nat.le_refl _)) (by simp [Ent.fp])
theorem fps_sub {H H' : Heap} (hs : List.Sublist H' H) : List.Sublist (fps H') (fps H) := by
  induction hs with
  | slnil => exact .refl _
  | cons a _ ih => rw [fps_cons]; exact ih.trans (List.sublist_append_right _ _)
  | cons_cons a _ ih => rw [fps_cons, fps_cons]; exact ih.append_left _
theorem fps_perm {H H' : Heap} (hs : List.Perm H' H) : (fps H').Perm (fps H) := by
  induction hs with
  | nil => exact .refl _
  | cons a _ ih => rw [fps_cons, fps_cons]; exact ih.append_left _
  | swap a b l => rw [fps_cons, fps_cons, fps_cons, fps_cons, ← List.append_assoc, ← List.append_assoc]; exact List.perm_append_comm.append_right _
  | trans _ _ h1 h2 => exact h1.trans h2
theorem St.sub {g : GW} {w : World} {M : Mem} {H H' : Heap} (h : St g M H w) (hs : List.Sublist H' H) : St g M H' w :=
  ⟨h.os, h.tape, h.output, h.size, h.mem, fun p hp => h.own p (hs.subset hp), (fps_sub hs).nodup h.nodup, fun p hp => h.apart p ((fps_sub hs).subset hp), h.dsok⟩
theorem St.perm {g : GW} {w : World} {M : Mem} {H H' : Heap} (h : St g M H w) (hs : List.Perm H' H) : St g M H' w :=
  ⟨h.os, h.tape, h.output, h.size, h.mem, fun p hp => h.own p (hs.subset hp), (fps_perm hs).nodup_iff.2 h.nodup, fun p hp => h.apart p ((fps_perm hs).subset hp), h.dsok⟩
theorem St.drop {g : GW} {w : World} {M : Mem} {H : Heap} {p : Ent} (h : St g M (p :: H) w) : St g M H w := h.sub (List.sublist_cons_self _ _)
/-- What is own becomes memory that stays. -/
def Mem.add (M : Mem) (b : Nat) (o : Obj) : Mem := fun k => if k = b then some o else M k
theorem Mem.add_self (M : Mem) (b : Nat) (o : Obj) : M.add b o b = some o := by simp [Mem.add]
theorem Mem.le_add {M : Mem} {b : Nat} {o : Obj} (h : M b = none) : M.le (M.add b o) := fun k o' hk => by
  unfold Mem.add
  split
  · rename_i e; subst e; rw [h] at hk; cases hk
  · exact hk
theorem St.keep {g : GW} {w : World} {M : Mem} {H : Heap} {b : Nat} {o : Obj} (h : St g M (.blk b o :: H) w) : M.le (M.add b o) ∧ St g (M.add b o) H w := by
  have hn : M b = none := h.apart b (by simp [fps, Ent.fp])
  have hnd := h.nodup
  rw [fps_cons] at hnd
  simp only [Ent.fp, List.singleton_append, List.nodup_cons] at hnd
  refine ⟨Mem.le_add hn, h.os, h.tape, h.output, h.size, fun k o' hk => ?_, fun p hp => h.own p (List.mem_cons_of_mem _ hp), hnd.2, fun p hp => ?_, h.dsok.mono (Mem.le_add hn)⟩
  · unfold Mem.add at hk
    split at hk
    · rename_i e; subst e; cases hk; exact h.own (.blk k o) (List.mem_cons_self ..)
    · exact h.mem k o' hk
  · unfold Mem.add
    rw [if_neg]
    · exact h.apart p (by rw [fps_cons]; exact List.mem_append_right _ hp)
    · rintro rfl; exact hnd.1 hp
/-- One own block is written. -/
theorem St.put {g : GW} {w w' : World} {M : Mem} {H : Heap} {b : Nat} {o o' : Obj} (h : St g M (.blk b o :: H) w)
    (h1 : w'.os = w.os) (h2 : w'.tape = w.tape) (h3 : w'.output = w.output) (h4 : w.heap.size ≤ w'.heap.size) (h5 : w'.heap[b]? = some o')
    (h6 : ∀ k, k < w.heap.size → k ≠ b → w'.heap[k]? = w.heap[k]?) : St g M (.blk b o' :: H) w' :=
  St.turn (E := [.blk b o]) (.blk b o') h h1 h2 h3 h4 h5 (fun k hk hne => h6 k hk (by simpa [fps, Ent.fp] using hne)) (fun k hk => .inl (by simpa [fps, Ent.fp] using hk)) (by simp [Ent.fp])
theorem St.row0 {g : GW} {w : World} {M : Mem} {H : Heap} (h : St g M H w) (T : TypeId) (z : Nat) : St g M (.row none 0 0 T z [] :: H) w :=
  St.turn (E := []) (.row none 0 0 T z []) h rfl rfl rfl (Nat.le_refl _) (World.ownsRow_nil w 0 T z) (fun _ _ _ => rfl) (fun k hk => by simp [Ent.fp] at hk) (by simp [Ent.fp])

/-! ### The fence -/
def fw (ro : Option Nat) : Fence := { Fence.wide with round := ro }
theorem callsIn_n {ro : Option Nat} {n n' : Nat} {P : Program} {f : FuncId} {args : Array Value} {w : World} {R : Ending → World → Prop} (h : CallsIn (fw ro) n P f args w R) : CallsIn (fw ro) n' P f args w R :=
  ⟨h.1, fun cs _ => h.2 cs (fun _ hd => by simp [fw, Fence.wide] at hd)⟩
theorem wpIn_n {ro : Option Nat} {n n' : Nat} {P : Program} {c : Code} {Q : Exit → Act → World → Prop} {a : Act} {w : World} (h : c.wpIn (fw ro) n P Q a w) : c.wpIn (fw ro) n' P Q a w :=
  fun b k cs hro hb _ => h b k cs hro hb (fun _ hd => by simp [fw, Fence.wide] at hd)

/-! ### Abstract states -/
abbrev Tm := List Value
abbrev Post := Exit → Tm → Mem → Heap → Prop
def ev (tm : Tm) : Operand → Value
  | .tmp t => tm.getD t undef
  | .const v => v
  | .global g => .pointer (some ⟨g, 0, none⟩)
  | .func f => .func (.func f) #[] #[]
/-- In a round's frame or in a function's own; whether the marks stay as they are. -/
structure RO where
  ro : Option Nat
  fx : Bool
def act (ds : List Deferred) (tm : Tm) : Act := { tmps := tm.toArray, defers := ds }
theorem ev_act (ds : List Deferred) (tm : Tm) : (act ds tm).eval = ev tm := by
  funext x
  cases x <;> simp [Act.eval, ev, act]
def putL (tm : Tm) (d : Option Tmp) (v : Value) : Tm := match d with | some k => tm.set k v | none => tm
theorem put_act (ds : List Deferred) (tm : Tm) (d : Option Tmp) (v : Value) : (act ds tm).put d v = act ds (putL tm d v) := by
  cases d <;> simp [Act.put, act, putL]
def lift (fx : Bool) (g : GW) (M : Mem) (Q : Post) (e : Exit) (a : Act) (w : World) : Prop := ∃ ds tm M' H', (fx = true → ds = g.ds) ∧ a = act ds tm ∧ M.le M' ∧ St ⟨g.w, ds⟩ M' H' w ∧ Q e tm M' H'
theorem lift_mono {fx : Bool} {g : GW} {M M1 : Mem} {Q Q' : Post} (hM : M.le M1) (hq : ∀ e tm M' H', M1.le M' → Q e tm M' H' → Q' e tm M' H') {e : Exit} {a : Act} {w : World} (h : lift fx g M1 Q e a w) : lift fx g M Q' e a w := by
  obtain ⟨ds, tm, M', H', hf, h1, h2, h3, h4⟩ := h
  exact ⟨ds, tm, M', H', hf, h1, hM.trans h2, h3, hq _ _ _ _ h2 h4⟩
theorem lift_of {fx : Bool} {g : GW} {ds : List Deferred} {M M1 : Mem} {Q : Post} (hf : fx = true → ds = g.ds) (hM : M.le M1) {e : Exit} {a : Act} {w : World} (h : lift fx ⟨g.w, ds⟩ M1 Q e a w) : lift fx g M Q e a w := by
  obtain ⟨ds', tm, M', H', hf', h1, h2, h3, h4⟩ := h
  exact ⟨ds', tm, M', H', fun e => (hf' e).trans (hf e), h1, hM.trans h2, h3, h4⟩
theorem lift_in {fx : Bool} {g : GW} {M : Mem} {H : Heap} {Q : Post} {e : Exit} {tm : Tm} {w : World} (hS : St g M H w) (h : Q e tm M H) : lift fx g M Q e (act g.ds tm) w := ⟨g.ds, tm, M, H, fun _ => rfl, rfl, .refl M, hS, h⟩

section
variable (P : Program) (ro : RO)
def AW (c : Code) (Q : Post) (tm : Tm) (M : Mem) (H : Heap) : Prop := ∀ g w, St g M H w → c.wpIn (fw ro.ro) 0 P (lift ro.fx g M Q) (act g.ds tm) w
def AO (ops : Array Oper) (Q : Post) (l : List Oper) (tm : Tm) (M : Mem) (H : Heap) : Prop := ∀ g w, St g M H w → wpListIn (fw ro.ro) 0 P ops (lift ro.fx g M Q) l (act g.ds tm) w
def AC (f : FuncId) (args : List Value) (M : Mem) (H : Heap) (R : Value → Mem → Heap → Prop) : Prop :=
  ∀ g w, St g M H w → CallsIn (fw none) 0 P f args.toArray w fun e w' => ∃ v M' H', e = .returned v ∧ M.le M' ∧ St g M' H' w' ∧ R v M' H'
end
def thn (K : Tm → Mem → Heap → Prop) (Q : Post) : Post
  | .normal => K
  | e => Q e
def inb (id : Nat) (Q : Post) : Post
  | .exit i => if i = id then Q .normal else Q (.exit i)
  | e => Q e

section
variable {P : Program} {ro : RO} {Q Q' : Post} {tm : Tm} {M : Mem} {H : Heap}
theorem AW.mono {c : Code} (h : AW P ro c Q tm M H) (hq : ∀ e tm M' H', M.le M' → Q e tm M' H' → Q' e tm M' H') : AW P ro c Q' tm M H :=
  fun g w hS => wpIn_mono (h g w hS) fun e a w' hl => lift_mono (Mem.le.refl M) hq hl
theorem AW.seq {x y : Code} (h : AW P ro x (thn (AW P ro y Q) Q) tm M H) : AW P ro (.seq x y) Q tm M H := fun g w hS => by
  refine wpIn_seq (wpIn_mono (h g w hS) fun e a w' hl => ?_)
  obtain ⟨ds, tm', M', H', hf, rfl, hM, hS', hq⟩ := hl
  cases e with
  | normal => exact wpIn_mono (hq ⟨g.w, ds⟩ w' hS') fun e a w hl => lift_of hf hM hl
  | _ => exact ⟨ds, tm', M', H', hf, rfl, hM, hS', hq⟩
theorem AW.skip (h : Q .normal tm M H) : AW P ro .skip Q tm M H := fun g w hS => wpIn_skip (lift_in hS h)
theorem AW.label {l : Nat} (h : Q .normal tm M H) : AW P ro (.label l) Q tm M H := fun g w hS => wpIn_label (lift_in hS h)
theorem AW.exit {id : Nat} (h : Q (.exit id) tm M H) : AW P ro (.exit id) Q tm M H := fun g w hS => wpIn_exit (lift_in hS h)
theorem AW.ret (h : Q .ret tm M H) : AW P ro .ret Q tm M H := fun g w hS => wpIn_ret (lift_in hS h)
theorem AW.cond {c : Operand} {x y : Code} {t : Bool} (hc : ev tm c = .bool t) (ht : t = true → AW P ro x Q tm M H) (hf : t = false → AW P ro y Q tm M H) : AW P ro (.cond c x y) Q tm M H := fun g w hS =>
  wpIn_cond_split (by rw [ev_act]; exact hc) (fun e => ht e g w hS) (fun e => hf e g w hS)
theorem AW.block {id : Nat} {c : Code} (h : AW P ro c (inb id Q) tm M H) : AW P ro (.block id c) Q tm M H := fun g w hS => by
  refine wpIn_block (wpIn_mono (h g w hS) fun e a w' hl => ?_)
  obtain ⟨ds, tm', M', H', hf, rfl, hM, hS', hq⟩ := hl
  cases e with
  | exit i =>
    simp only [Exit.inBlock]
    simp only [inb] at hq
    split <;> rename_i hi
    · rw [if_pos hi] at hq; exact ⟨ds, tm', M', H', hf, rfl, hM, hS', hq⟩
    · rw [if_neg hi] at hq; exact ⟨ds, tm', M', H', hf, rfl, hM, hS', hq⟩
  | _ => exact ⟨ds, tm', M', H', hf, rfl, hM, hS', hq⟩
/-- A loop: the relation I at every round's head, a measure that falls. -/
theorem AW.loop {c : Code} (I : Nat → Tm → Mem → Heap → Prop) (n : Nat) (h0 : I n tm M H)
    (round : ∀ n tm M' H', M.le M' → I n tm M' H' → AW P ro c (thn (fun tm M'' H => ∃ k, k < n ∧ I k tm M'' H) Q) tm M' H') : AW P ro (.loop c) Q tm M H := fun g w hS => by
  have key : ∀ m n ds tm M' H' w, n < m → (ro.fx = true → ds = g.ds) → M.le M' → I n tm M' H' → St ⟨g.w, ds⟩ M' H' w → Code.roundsIn (fw ro.ro) 0 P c (lift ro.fx g M Q) m (act ds tm) w := by
    intro m
    induction m with
    | zero => intro n ds tm M' H' w hn; omega
    | succ m ih =>
      intro n ds tm M' H' w hn hf hM hI hS'
      rw [roundsIn_succ]
      refine wpIn_mono (round n tm M' H' hM hI ⟨g.w, ds⟩ w hS') fun e a w' hl => ?_
      obtain ⟨ds1, tm1, M1, H1, hf1, rfl, hM1, hS1, hq⟩ := hl
      cases e with
      | normal =>
        obtain ⟨k, hk, hI1⟩ := hq
        exact ih k ds1 tm1 M1 H1 w' (by omega) (fun e => (hf1 e).trans (hf e)) (hM.trans hM1) hI1 hS1
      | _ => exact ⟨ds1, tm1, M1, H1, fun e => (hf1 e).trans (hf e), rfl, hM.trans hM1, hS1, hq⟩
  exact wpIn_loop_rounds (n + 1) (key (n + 1) n g.ds tm M H w (Nat.lt_succ_self n) (fun _ => rfl) (.refl M) h0 hS)
end
end Go.Proofs.YtieaiheejhmbfaaGreatDoor.ML
/- The abstract layer: operations that leave memory as it is. No conditions. -/
namespace Go.Proofs.YtieaiheejhmbfaaGreatDoor.ML
open Go.RowKit
set_option linter.unusedVariables false
set_option linter.unusedSimpArgs false
section
variable {P : Program} {ro : RO} {ops : Array Oper} {Q : Post} {rest : List Oper} {tm : Tm} {M : Mem} {H : Heap} {o : Oper}
def isDefer : Op → Bool | .defer _ => true | _ => false
theorem fw_fn (f : FuncId) : (fw ro.ro).fn f := trivial
theorem uponIn_mono {F : Fence} {n : Nat} {o : Oper} {a : Act} {K K' : Act → World → Prop} {Q Q' : Exit → Act → World → Prop} (hK : ∀ a w, K a w → K' a w) (hQ : ∀ e a w, Q e a w → Q' e a w) {r : Result Next} (hh : o.uponIn F n P a K Q r) : o.uponIn F n P a K' Q' r := by
  cases r with
  | ok x w1 =>
    cases x <;> simp only [Oper.uponIn] at hh ⊢ <;> first
      | exact hK _ _ hh
      | exact ⟨hh.1, CallsIn.mono hh.2 fun e w2 he => by
          cases e with
          | returned v => exact hK _ _ he
          | panicked c => exact hQ _ _ _ he
          | outgrown => obtain ⟨a0, w0, h0⟩ := he; exact ⟨a0, w0, hQ _ _ _ h0⟩⟩
      | exact ⟨hh.1, RowsIn.mono hh.2 fun v w2 he => hK _ _ he⟩
      | exact ⟨hh.1, RoundIn.mono hh.2 fun e w2 he => by
          cases e with
          | returned v => exact hK _ _ he
          | panicked c => exact hQ _ _ _ he
          | outgrown => obtain ⟨a0, w0, h0⟩ := he; exact ⟨a0, w0, hQ _ _ _ h0⟩⟩
  | halt x w1 => cases x <;> simp only [Oper.uponIn] at hh ⊢ <;> first | exact hh | exact hQ _ _ _ hh
theorem opIn_mono {F : Fence} {n : Nat} {o : Oper} {a : Act} {w : World} {K K' : Act → World → Prop} {Q Q' : Exit → Act → World → Prop} (hK : ∀ a w, K a w → K' a w) (hQ : ∀ e a w, Q e a w → Q' e a w) (hh : o.wpIn F n P a w K Q) : o.wpIn F n P a w K' Q' := ⟨hh.1, uponIn_mono hK hQ hh.2⟩
theorem listIn_mono {F : Fence} {n : Nat} {Q Q' : Exit → Act → World → Prop} (hQ : ∀ e a w, Q e a w → Q' e a w) : ∀ (l : List Oper) (a : Act) (w : World), wpListIn F n P ops Q l a w → wpListIn F n P ops Q' l a w
  | [], a, w, h => hQ _ _ _ h
  | o :: l, a, w, h => by
    unfold wpListIn at h ⊢
    split
    · rename_i hw; rw [if_pos hw] at h; exact opIn_mono (fun a w h => listIn_mono hQ l a w h) hQ h
    · rename_i hw; rw [if_neg hw] at h; exact ⟨h.1, listIn_mono hQ l _ _ h.2⟩
theorem AO.weaken {l : List Oper} {M' : Mem} {H' : Heap} {g : GW} {w : World} {tm' : Tm} (hM : M.le M') (hS : St g M' H' w) (h : AO P ro ops Q l tm' M' H') : wpListIn (fw ro.ro) 0 P ops (lift ro.fx g M Q) l (act g.ds tm') w :=
  listIn_mono (fun _ _ _ hl => lift_mono hM (fun _ _ _ _ _ h => h) hl) l _ w (h g w hS)
theorem semAt_exec {ro : Option Nat} (h : isDefer o.op = false) (ρ : Operand → Value) : Oper.semAt ro ρ o = execOp ρ o := by
  cases ro with
  | none => rfl
  | some l => exact Oper.semAt_some l ρ o (fun c hc => by rw [hc] at h; simp [isDefer] at h)
/-- One operation (its guard is not asked). -/
def hold (g : GW) (M : Mem) (K : Tm → Mem → Heap → Prop) (a : Act) (w : World) : Prop := ∃ tm M' H', a = act g.ds tm ∧ M.le M' ∧ St g M' H' w ∧ K tm M' H'
def AS (P : Program) (ro : RO) (o : Oper) (tm : Tm) (M : Mem) (H : Heap) (K : Tm → Mem → Heap → Prop) : Prop :=
  ∀ g w, St g M H w → o.wpIn (fw ro.ro) 0 P (act g.ds tm) w (hold g M K) (fun _ _ _ => False)
variable {K K' : Tm → Mem → Heap → Prop}
theorem AS.mono (h : AS P ro o tm M H K) (hk : ∀ tm M' H', M.le M' → K tm M' H' → K' tm M' H') : AS P ro o tm M H K' := fun g w hS =>
  opIn_mono (fun a w ⟨tm, M', H', h1, h2, h3, h4⟩ => ⟨tm, M', H', h1, h2, h3, hk _ _ _ h2 h4⟩) (fun _ _ _ h => h) (h g w hS)
theorem AO.cons (h : AS P ro o tm M H (AO P ro ops Q rest)) (hg : o.guard = none := by rfl) : AO P ro ops Q (o :: rest) tm M H := fun g w hS => by
  refine wpListIn_plain hg fun K hK => opIn_mono (fun a w' hh => ?_) (fun _ _ _ h => h.elim) (h g w hS)
  obtain ⟨tm', M', H', rfl, hM, hS', hk⟩ := hh
  exact hK _ _ (AO.weaken hM hS' hk)
/-- An operation that yields a value. -/
theorem AS.val (hd : isDefer o.op = false)
    (h : ∀ g w, St g M H w → ∃ v w' M' H', (execOp (ev tm) o).run P w = .ok (.value v) w' ∧ M.le M' ∧ St g M' H' w' ∧ K (putL tm o.dst v) M' H') : AS P ro o tm M H K := fun g w hS => by
  obtain ⟨v, w', M', H', hr, hM, hS', hk⟩ := h g w hS
  refine ⟨fun f _ => trivial, ?_⟩
  rw [show (fw ro.ro).round = ro.ro from rfl, semAt_exec hd, ev_act, hr, Oper.uponIn_value, put_act]
  exact ⟨_, _, _, rfl, hM, hS', hk⟩
theorem AS.skipv (hd : isDefer o.op = false) (hn : o.dst = none)
    (h : ∀ g w, St g M H w → ∃ w' M' H', (execOp (ev tm) o).run P w = .ok .skip w' ∧ M.le M' ∧ St g M' H' w' ∧ K tm M' H') : AS P ro o tm M H K := fun g w hS => by
  obtain ⟨w', M', H', hr, hM, hS', hk⟩ := h g w hS
  refine ⟨fun f _ => trivial, ?_⟩
  rw [show (fw ro.ro).round = ro.ro from rfl, semAt_exec hd, ev_act, hr, Oper.uponIn_skip, put_act, hn]
  exact ⟨_, _, _, rfl, hM, hS', hk⟩
/-- What an operation yields, wherever memory M lies. -/
def PVM (P : Program) (o : Oper) (tm : Tm) (M : Mem) (v : Value) : Prop := isDefer o.op = false ∧ ∀ w : World, (∀ b ob, M b = some ob → w.heap[b]? = some ob) → (execOp (ev tm) o).run P w = .ok (.value v) w
theorem PVM.mono {M' : Mem} {v : Value} (hM : M.le M') (h : PVM P o tm M v) : PVM P o tm M' v := ⟨h.1, fun w hw => h.2 w fun b ob hb => hw b ob (hM b ob hb)⟩
theorem PVM.mk {v : Value} (hd : isDefer o.op = false) (h : ∀ w, (execOp (ev tm) o).run P w = .ok (.value v) w) : PVM P o tm M v := ⟨hd, fun w _ => h w⟩
def PVH (P : Program) (o : Oper) (tm : Tm) (M : Mem) (H : Heap) (v : Value) : Prop := isDefer o.op = false ∧ ∀ (g : GW) (w : World), St g M H w → (execOp (ev tm) o).run P w = .ok (.value v) w
theorem PVM.h {v : Value} (h : PVM P o tm M v) : PVH P o tm M H v := ⟨h.1, fun g w hS => h.2 w hS.mem⟩
theorem AS.p {v : Value} (hv : PVM P o tm M v) (h : K (putL tm o.dst v) M H) : AS P ro o tm M H K :=
  AS.val hv.1 fun g w hS => ⟨v, w, M, H, hv.2 w hS.mem, .refl M, hS, h⟩
theorem AS.q {v : Value} (hv : PVH P o tm M H v) (h : K (putL tm o.dst v) M H) : AS P ro o tm M H K :=
  AS.val hv.1 fun g w hS => ⟨v, w, M, H, hv.2 g w hS, .refl M, hS, h⟩
theorem AO.p {v : Value} (hv : PVM P o tm M v) (h : AO P ro ops Q rest (putL tm o.dst v) M H) (hg : o.guard = none := by rfl) : AO P ro ops Q (o :: rest) tm M H := AO.cons (AS.p hv h) hg
theorem AO.q {v : Value} (hv : PVH P o tm M H v) (h : AO P ro ops Q rest (putL tm o.dst v) M H) (hg : o.guard = none := by rfl) : AO P ro ops Q (o :: rest) tm M H := AO.cons (AS.q hv h) hg
theorem AO.nil (h : Q .normal tm M H) : AO P ro ops Q [] tm M H := fun g w hS => lift_in hS h
theorem AW.region {id : Nat} {l : List Oper} (h : AO P ro l.toArray Q l tm M H) : AW P ro (.region id l.toArray false) Q tm M H := fun g w hS => wpIn_region_lit (h g w hS)
/-- What is known of an operation's guard. -/
theorem AO.on {d : Option Tmp} {op : Op} {ty : TypeId} {pos : String} {aft : Array Edge} {j : Nat} {want : Bool} (hy : yielded ops tm.toArray j = some want)
    (h : AO P ro ops Q (⟨d, op, ty, pos, aft, none⟩ :: rest) tm M H) : AO P ro ops Q (⟨d, op, ty, pos, aft, some (j, want)⟩ :: rest) tm M H := fun g w hS => by
  have := h g w hS
  unfold wpListIn at this ⊢
  rw [if_pos (by simp [Region.wanted])] at this
  rw [if_pos (by simp [Region.wanted, act, hy])]
  exact this
theorem AO.off {d : Option Tmp} {op : Op} {ty : TypeId} {pos : String} {aft : Array Edge} {j : Nat} {want b : Bool} (hy : yielded ops tm.toArray j = some b) (hb : b ≠ want)
    (h : AO P ro ops Q rest (putL tm d undef) M H) : AO P ro ops Q (⟨d, op, ty, pos, aft, some (j, want)⟩ :: rest) tm M H := fun g w hS => by
  have := h g w hS
  unfold wpListIn
  rw [if_neg (by simp [Region.wanted, act, hy]; exact fun e => hb e), put_act]
  exact ⟨fun _ _ => trivial, this⟩
theorem AO.offU {d : Option Tmp} {op : Op} {ty : TypeId} {pos : String} {aft : Array Edge} {j : Nat} {want : Bool} (hy : yielded ops tm.toArray j = none)
    (h : AO P ro ops Q rest (putL tm d undef) M H) : AO P ro ops Q (⟨d, op, ty, pos, aft, some (j, want)⟩ :: rest) tm M H := fun g w hS => by
  have := h g w hS
  unfold wpListIn
  rw [if_neg (by simp [Region.wanted, act, hy]), put_act]
  exact ⟨fun _ _ => trivial, this⟩
/-! ### Pure operations -/
section
variable {d : Option Tmp} {ty : TypeId} {pos : String} {aft : Array Edge} {gd : Option (Nat × Bool)} {x y z : Operand} {T T' : TypeId} {k : IntKind} {a b : Int}
theorem PV.move : PVM P ⟨d, .move x, ty, pos, aft, gd⟩ tm M (ev tm x) := .mk rfl (fun w => rfl)
theorem PV.assign : PVM P ⟨d, .assign x, ty, pos, aft, gd⟩ tm M (ev tm x) := .mk rfl (fun w => rfl)
theorem PV.pick {t : Bool} (hc : ev tm x = .bool t) : PVM P ⟨d, .pick x y z, ty, pos, aft, gd⟩ tm M (if t then ev tm y else ev tm z) :=
  .mk rfl (fun w => by simp [execOp, hc, asBool, go_sem])
theorem eqGuard_int (op : BinOp) (a b : Int) (j k : IntKind) : eqGuard op T x y (.int j a) (.int k b) = (Pure.pure () : Sem Unit) := by
  unfold eqGuard
  split <;> rfl
theorem PV.bini {op : BinOp} {v : Value} (hx : ev tm x = .int k a) (hy : ev tm y = .int k b) (hv : ∀ w, (binOp op T (.int k a) (.int k b)).run P w = .ok v w) : PVM P ⟨d, .binOp op T x y T', ty, pos, aft, gd⟩ tm M v :=
  .mk rfl (fun w => by simp only [execOp, hx, hy, eqGuard_int]; simp [Sem.run_bind, hv, Result.andThen, go_sem])
theorem PV.add (hx : ev tm x = .int k a) (hy : ev tm y = .int k b) : PVM P ⟨d, .binOp .add T x y T', ty, pos, aft, gd⟩ tm M (.int k (k.wrap (a + b))) :=
  PV.bini hx hy (fun w => by cases k <;> rfl)
theorem PV.sub (hx : ev tm x = .int k a) (hy : ev tm y = .int k b) : PVM P ⟨d, .binOp .sub T x y T', ty, pos, aft, gd⟩ tm M (.int k (k.wrap (a - b))) :=
  PV.bini hx hy (fun w => by cases k <;> rfl)
theorem PV.mul (hx : ev tm x = .int k a) (hy : ev tm y = .int k b) : PVM P ⟨d, .binOp .mul T x y T', ty, pos, aft, gd⟩ tm M (.int k (k.wrap (a * b))) :=
  PV.bini hx hy (fun w => by cases k <;> rfl)
theorem wrap64_in {a : Int} (h : -9223372036854775808 ≤ a ∧ a ≤ 9223372036854775807) : IntKind.i64.wrap a = a := IntWalk.i64_in a h
theorem PV.add64 (hx : ev tm x = .int .i64 a) (hy : ev tm y = .int .i64 b) (hb : -9223372036854775808 ≤ a + b ∧ a + b ≤ 9223372036854775807) : PVM P ⟨d, .binOp .add T x y T', ty, pos, aft, gd⟩ tm M (.int .i64 (a + b)) := by
  have := PV.add (P := P) (M := M) (d := d) (ty := ty) (pos := pos) (aft := aft) (gd := gd) (T := T) (T' := T') hx hy
  rwa [wrap64_in hb] at this
theorem PV.sub64 (hx : ev tm x = .int .i64 a) (hy : ev tm y = .int .i64 b) (hb : -9223372036854775808 ≤ a - b ∧ a - b ≤ 9223372036854775807) : PVM P ⟨d, .binOp .sub T x y T', ty, pos, aft, gd⟩ tm M (.int .i64 (a - b)) := by
  have := PV.sub (P := P) (M := M) (d := d) (ty := ty) (pos := pos) (aft := aft) (gd := gd) (T := T) (T' := T') hx hy
  rwa [wrap64_in hb] at this
theorem PV.mul64 (hx : ev tm x = .int .i64 a) (hy : ev tm y = .int .i64 b) (hb : -9223372036854775808 ≤ a * b ∧ a * b ≤ 9223372036854775807) : PVM P ⟨d, .binOp .mul T x y T', ty, pos, aft, gd⟩ tm M (.int .i64 (a * b)) := by
  have := PV.mul (P := P) (M := M) (d := d) (ty := ty) (pos := pos) (aft := aft) (gd := gd) (T := T) (T' := T') hx hy
  rwa [wrap64_in hb] at this
theorem PV.quo (hx : ev tm x = .int k a) (hy : ev tm y = .int k b) (hb : b ≠ 0) : PVM P ⟨d, .binOp .quo T x y T', ty, pos, aft, gd⟩ tm M (.int k (k.wrap (a.tdiv b))) :=
  PV.bini hx hy (fun w => by simp [binOp, Op.intDiv, hb, go_sem])
theorem PV.rem (hx : ev tm x = .int k a) (hy : ev tm y = .int k b) (hb : b ≠ 0) : PVM P ⟨d, .binOp .rem T x y T', ty, pos, aft, gd⟩ tm M (.int k (a.tmod b)) :=
  PV.bini hx hy (fun w => by simp [binOp, Op.intDiv, hb, go_sem])
theorem PV.eql (hx : ev tm x = .int k a) (hy : ev tm y = .int k b) : PVM P ⟨d, .binOp .eql T x y T', ty, pos, aft, gd⟩ tm M (.bool (decide (a = b))) :=
  PV.bini hx hy (fun w => by cases k <;> rfl)
theorem PV.neq (hx : ev tm x = .int k a) (hy : ev tm y = .int k b) : PVM P ⟨d, .binOp .neq T x y T', ty, pos, aft, gd⟩ tm M (.bool (!decide (a = b))) :=
  PV.bini hx hy (fun w => by cases k <;> rfl)
theorem PV.lss (hx : ev tm x = .int k a) (hy : ev tm y = .int k b) : PVM P ⟨d, .binOp .lss T x y T', ty, pos, aft, gd⟩ tm M (.bool (decide (a < b))) :=
  PV.bini hx hy (fun w => by cases k <;> rfl)
theorem PV.leq (hx : ev tm x = .int k a) (hy : ev tm y = .int k b) : PVM P ⟨d, .binOp .leq T x y T', ty, pos, aft, gd⟩ tm M (.bool (decide (a ≤ b))) :=
  PV.bini hx hy (fun w => by cases k <;> rfl)
theorem PV.gtr (hx : ev tm x = .int k a) (hy : ev tm y = .int k b) : PVM P ⟨d, .binOp .gtr T x y T', ty, pos, aft, gd⟩ tm M (.bool (decide (b < a))) :=
  PV.bini hx hy (fun w => by cases k <;> rfl)
theorem PV.geq (hx : ev tm x = .int k a) (hy : ev tm y = .int k b) : PVM P ⟨d, .binOp .geq T x y T', ty, pos, aft, gd⟩ tm M (.bool (decide (b ≤ a))) :=
  PV.bini hx hy (fun w => by cases k <;> rfl)
theorem eqGuard_str (op : BinOp) (a b : ByteArray) : eqGuard op T x y (.string a) (.string b) = (Pure.pure () : Sem Unit) := by
  unfold eqGuard
  split <;> rfl
theorem PV.cat {s t : ByteArray} (hx : ev tm x = .string s) (hy : ev tm y = .string t) (hl : s.size + t.size ≤ 9223372036854775807) : PVM P ⟨d, .binOp .add T x y T', ty, pos, aft, gd⟩ tm M (.string (s ++ t)) :=
  .mk rfl (fun w => by
    have hn : ¬ (((s.size + t.size : Nat) : Int) > IntKind.i64.max) := by rw [show IntKind.i64.max = 9223372036854775807 from rfl]; omega
    simp only [execOp, hx, hy, eqGuard_str, binOp, Op.stringOp, if_neg hn]; rfl)
theorem toList_inj {s t : ByteArray} (h : s.toList = t.toList) : s = t := by
  rw [ByteArray.toList_eq, ByteArray.toList_eq] at h
  cases s; cases t; simp at h; subst h; rfl
theorem str_beq (s t : ByteArray) : (s.toList == t.toList) = decide (s = t) := by
  by_cases h : s = t
  · subst h; simp
  · rw [decide_eq_false h, beq_eq_false_iff_ne]; exact fun e => h (toList_inj e)
theorem PV.eqs {s t : ByteArray} (hx : ev tm x = .string s) (hy : ev tm y = .string t) : PVM P ⟨d, .binOp .eql T x y T', ty, pos, aft, gd⟩ tm M (.bool (decide (s = t))) :=
  .mk rfl (fun w => by simp only [execOp, hx, hy, eqGuard_str, binOp, Op.stringOp, str_beq s t]; rfl)
theorem PV.nes {s t : ByteArray} (hx : ev tm x = .string s) (hy : ev tm y = .string t) : PVM P ⟨d, .binOp .neq T x y T', ty, pos, aft, gd⟩ tm M (.bool (!decide (s = t))) :=
  .mk rfl (fun w => by simp only [execOp, hx, hy, eqGuard_str, binOp, Op.stringOp, str_beq s t]; rfl)
theorem PV.not {t : Bool} (hx : ev tm x = .bool t) : PVM P ⟨d, .unOp .not T x, ty, pos, aft, gd⟩ tm M (.bool !t) :=
  .mk rfl (fun w => by simp only [execOp, hx, Op.unary]; rfl)
theorem PV.neg (hx : ev tm x = .int k a) : PVM P ⟨d, .unOp .neg T x, ty, pos, aft, gd⟩ tm M (.int k (k.wrap (0 - a))) :=
  .mk rfl (fun w => by simp only [execOp, hx, Op.unary]; rfl)
theorem PV.extract {vs : Array Value} {i : Nat} {v : Value} (hx : ev tm x = .tuple vs) (hi : vs[i]? = some v) : PVM P ⟨d, .extract x i, ty, pos, aft, gd⟩ tm M v :=
  .mk rfl (fun w => by simp only [execOp, hx, Instr.extract, hi]; rfl)
theorem PV.makeFunc {fn : Fn} {f c : Array Operand} : PVM P ⟨d, .makeFunc fn f c, ty, pos, aft, gd⟩ tm M (.func fn (f.map (ev tm)) (c.map (ev tm))) :=
  .mk rfl (fun w => rfl)
end
end
end Go.Proofs.YtieaiheejhmbfaaGreatDoor.ML
/- The abstract layer: loads, stores, new blocks. No conditions. -/
namespace Go.Proofs.YtieaiheejhmbfaaGreatDoor.ML
open Go.RowKit
set_option linter.unusedVariables false
set_option linter.unusedSimpArgs false
section
variable {P : Program}
/-! ### What is known of types -/
def scB (P : Program) (t : TypeId) : Bool := match P.underlying t, P.info? t with
  | some d, some i => (match d with | .struct _ => false | .array _ _ => false | _ => true) && i.size == 1
  | _, _ => false
def agB (P : Program) (t : TypeId) (n : Nat) : Bool := match P.underlying t, P.info? t with
  | some d, some i => (match d with | .struct _ => true | .array _ _ => true | _ => false) && i.size == n
  | _, _ => false
def foB (P : Program) (S : TypeId) (f off : Nat) : Bool := match P.underlying S with
  | some (.struct fs) => (match fs[f]? with | some fd => fd.offset == off && (match P.info? fd.type with | some i => i.size != 0 | none => false) | none => false)
  | _ => false
def elB (P : Program) (T E z : Nat) : Bool := match P.underlying T with
  | some (.slice e) => e == E && (match P.info? e with | some i => i.size == z | none => false)
  | _ => false
class Sc (P : Program) (t : TypeId) : Prop where out : scB P t = true
class Ag (P : Program) (t : TypeId) (n : outParam Nat) : Prop where out : agB P t n = true
class Fo (P : Program) (S : TypeId) (f : Nat) (off : outParam Nat) : Prop where out : foB P S f off = true
class El (P : Program) (T : TypeId) (E z : outParam Nat) : Prop where out : elB P T E z = true
class Zr (P : Program) (t : TypeId) (v : outParam Value) : Prop where out : (P.info? t).map (·.zero) = some (some v)
class It (P : Program) (t : TypeId) (k : outParam IntKind) : Prop where out : P.underlying t = some (.int k)
class Str (P : Program) (t : TypeId) : Prop where out : P.underlying t = some .string
variable {w : World} {t : TypeId}
theorem run_underlying {d : TypeDesc} (h : P.underlying t = some d) : (underlying t).run P w = .ok d w := by simp [underlying, h]
theorem run_typeInfo {i : TypeInfo} (h : P.info? t = some i) : (typeInfo t).run P w = .ok i w := by simp [typeInfo, h]
theorem Sc.ag [h : Sc P t] : (isAgg t).run P w = .ok false w := by
  have := h.out
  unfold scB at this
  split at this
  · rename_i d i hd hi
    simp only [isAgg, Sem.run_bind, run_underlying hd, Result.andThen_ok]
    cases d <;> simp at this ⊢
  · cases this
theorem Sc.size [h : Sc P t] : (sizeOf t).run P w = .ok 1 w := by
  have := h.out
  unfold scB at this
  split at this
  · rename_i d i hd hi
    simp only [sizeOf, Sem.run_bind, run_typeInfo hi, Result.andThen_ok, Sem.run_pure]
    simp at this
    rw [this.2]
  · cases this
theorem Ag.ag {n : Nat} [h : Ag P t n] : (isAgg t).run P w = .ok true w := by
  have := h.out
  unfold agB at this
  split at this
  · rename_i d i hd hi
    simp only [isAgg, Sem.run_bind, run_underlying hd, Result.andThen_ok]
    cases d <;> simp at this ⊢
  · cases this
theorem Ag.size {n : Nat} [h : Ag P t n] : (sizeOf t).run P w = .ok n w := by
  have := h.out
  unfold agB at this
  split at this
  · rename_i d i hd hi
    simp only [sizeOf, Sem.run_bind, run_typeInfo hi, Result.andThen_ok, Sem.run_pure]
    simp at this
    rw [this.2]
  · cases this
theorem Zr.run {v : Value} [h : Zr P t v] : (zeroValue t).run P w = .ok v w := by
  have := h.out
  cases hi : P.info? t with
  | none => rw [hi] at this; cases this
  | some i =>
    rw [hi] at this
    have hz : i.zero = some v := by simpa using this
    simp only [zeroValue, Sem.run_bind, run_typeInfo hi, Result.andThen_ok, hz, Sem.run_pure]
theorem add_addr (b o n : Nat) : (Addr.mk b o none).add n = ⟨b, o + n, none⟩ := by
  unfold Addr.add
  split
  · rename_i h; subst h; rfl
  · rfl
theorem Fo.run {S f off b o : Nat} [h : Fo P S f off] : (Instr.fieldAt S (.pointer (some ⟨b, o, none⟩)) f).run P w = .ok (.pointer (some ⟨b, o + off, none⟩)) w := by
  have := h.out
  unfold foB at this
  split at this
  · rename_i fs hs
    split at this
    · rename_i fd hf
      simp only [Bool.and_eq_true, beq_iff_eq] at this
      obtain ⟨h1, h2⟩ := this
      split at h2
      · rename_i i hi
        have hz : i.size ≠ 0 := by simpa using h2
        simp only [Instr.fieldAt, Sem.run_bind, run_underlying hs, Result.andThen_ok, hf, Instr.sureAddr, Sem.run_pure, fieldPlace, sizeOf, run_typeInfo hi, hz, if_false, h1, add_addr]
      · cases h2
    · cases this
  · cases this
theorem El.run {T E z : Nat} [h : El P T E z] : (underlying T).run P w = .ok (.slice E) w ∧ (sizeOf E).run P w = .ok z w := by
  have := h.out
  unfold elB at this
  split at this
  · rename_i e he
    simp only [Bool.and_eq_true, beq_iff_eq] at this
    obtain ⟨h1, h2⟩ := this
    subst h1
    split at h2
    · rename_i i hi
      refine ⟨run_underlying he, ?_⟩
      simp only [sizeOf, Sem.run_bind, run_typeInfo hi, Result.andThen_ok, Sem.run_pure]
      simp at h2
      rw [h2]
    · cases h2
  · cases this
end
/-! ### Cells -/
def Mc (M : Mem) (b off : Nat) : Option Value := match M b with | some (.cells cs _ _) => cs[off]? | _ => none
theorem Mc.mono {M N : Mem} (h : M.le N) {b off : Nat} {v : Value} (hc : Mc M b off = some v) : Mc N b off = some v := by
  unfold Mc at hc ⊢
  cases hm : M b with
  | none => rw [hm] at hc; cases hc
  | some o => rw [h b o hm]; rw [hm] at hc; exact hc
def Cel (M : Mem) (H : Heap) (b off : Nat) (v : Value) : Prop := Mc M b off = some v ∨ (∃ cs T fz, Ent.blk b (.cells cs T fz) ∈ H ∧ cs[off]? = some v) ∨ ∃ n c T z vs, Ent.row (some ⟨b, 0, none⟩) n c T z vs ∈ H ∧ vs[off]? = some v
theorem Cel.m {M : Mem} {H : Heap} {b off : Nat} {v : Value} (h : Mc M b off = some v) : Cel M H b off v := .inl h
theorem Cel.mb {M : Mem} {H : Heap} {b off : Nat} {v : Value} {cs : Array Value} {T : TypeId} {fz : Nat × Nat} (h : M b = some (.cells cs T fz)) (hc : cs[off]? = some v) : Cel M H b off v := .inl (by unfold Mc; rw [h]; exact hc)
theorem Cel.at {M : Mem} {H : Heap} {b off : Nat} {v : Value} {cs : Array Value} {T : TypeId} {fz : Nat × Nat} (i : Nat) (h : H[i]? = some (.blk b (.cells cs T fz))) (hc : cs[off]? = some v) : Cel M H b off v :=
  .inr (.inl ⟨cs, T, fz, List.mem_of_getElem? h, hc⟩)
theorem Cel.row {M : Mem} {H : Heap} {b off n c z : Nat} {T : TypeId} {v : Value} {vs : List Value} (r : Nat) (h : H[r]? = some (.row (some ⟨b, 0, none⟩) n c T z vs)) (hc : vs[off]? = some v) : Cel M H b off v :=
  .inr (.inr ⟨n, c, T, z, vs, List.mem_of_getElem? h, hc⟩)
theorem St.cel {g : GW} {w : World} {M : Mem} {H : Heap} (hS : St g M H w) {b off : Nat} {v : Value} (h : Cel M H b off v) : w.cell? ⟨b, off, none⟩ = some v := by
  rcases h with h | ⟨cs, T, fz, hm, hc⟩ | ⟨n, c, T, z, vs, hm, hc⟩
  · unfold Mc at h
    split at h
    · rename_i cs T fz hm
      simp [World.cell?, hS.mem _ _ hm, h]
    · cases h
  · have this : w.heap[b]? = some (.cells cs T fz) := hS.own _ hm
    simp [World.cell?, this, hc]
  · have := hS.own _ hm
    simp only [Ent.ok] at this
    rw [this.cellAt off (by rw [← this.1]; exact (List.getElem?_eq_some_iff.1 hc).1), hc]
theorem St.all {M : Mem} {w : World} (h : ∀ b ob, M b = some ob → w.heap[b]? = some ob) : St ⟨w, []⟩ M [] w :=
  ⟨rfl, rfl, rfl, Nat.le_refl _, h, fun p hp => by simp at hp, by simp [fps], fun p hp => by simp [fps] at hp, .nil⟩
def Cels (M : Mem) (H : Heap) (b : Nat) : Nat → List Value → Prop
  | _, [] => True
  | off, v :: vs => Cel M H b off v ∧ Cels M H b (off + 1) vs
theorem Cels.get {M : Mem} {H : Heap} {b : Nat} : ∀ {vs : List Value} {off : Nat}, Cels M H b off vs → ∀ j v, vs[j]? = some v → Cel M H b (off + j) v
  | [], _, _, j, v, hv => by simp at hv
  | u :: vs, off, h, 0, v, hv => by simp at hv; subst hv; exact h.1
  | u :: vs, off, h, j + 1, v, hv => by
    have := Cels.get h.2 j v (by simpa using hv)
    rwa [show off + 1 + j = off + (j + 1) by omega] at this
theorem run_load_sc {P : Program} {T : TypeId} [Sc P T] {g : GW} {w : World} {M : Mem} {H : Heap} (hS : St g M H w) {b off : Nat} {v : Value} (h : Cel M H b off v) : (Instr.loadAt T (.pointer (some ⟨b, off, none⟩))).run P w = .ok v w := by
  simp only [Instr.loadAt, Instr.sureAddr, Sem.run_bind, Sem.run_pure, Result.andThen_ok, loadVar, Sc.ag, Bool.false_eq_true, if_false, run_load, hS.cel h]
theorem run_load_ag {P : Program} {T n : Nat} [Ag P T n] {g : GW} {w : World} {M : Mem} {H : Heap} (hS : St g M H w) {b off : Nat} {vs : List Value} (hn : vs.length = n) (h : Cels M H b off vs) : (Instr.loadAt T (.pointer (some ⟨b, off, none⟩))).run P w = .ok (.agg vs.toArray) w := by
  have hl := run_loadCells_list (P := P) w ⟨b, off, none⟩ vs (fun j v hv => by rw [add_addr]; exact hS.cel (h.get j v hv))
  simp only [Instr.loadAt, Instr.sureAddr, Sem.run_bind, Sem.run_pure, Result.andThen_ok, loadVar, Ag.ag, if_true, Ag.size, ← hn, hl]
/-! ### Stores -/
theorem perm_at {α : Type} : ∀ {l : List α} {i : Nat} {e : α}, l[i]? = some e → (e :: l.eraseIdx i).Perm l
  | [], _, _, h => by simp at h
  | x :: l, 0, e, h => by simp at h; subst h; exact .refl _
  | x :: l, i + 1, e, h => by
    have := perm_at (l := l) (i := i) (e := e) (by simpa using h)
    exact (List.Perm.swap x e _).trans (this.cons x)
theorem perm_set {α : Type} : ∀ {l : List α} {i : Nat} (e : α), i < l.length → (l.set i e).Perm (e :: l.eraseIdx i)
  | [], _, _, h => by simp at h
  | x :: l, 0, e, h => .refl _
  | x :: l, i + 1, e, h => by
    have := perm_set (l := l) (i := i) e (by simpa using h)
    exact (this.cons x).trans (List.Perm.swap e x _)
theorem St.at {g : GW} {w : World} {M : Mem} {H : Heap} (hS : St g M H w) {i : Nat} {e : Ent} (hi : H[i]? = some e) : St g M (e :: H.eraseIdx i) w :=
  hS.perm (perm_at hi)
theorem St.back {g : GW} {w : World} {M : Mem} {H : Heap} {i : Nat} {e : Ent} (hi : i < H.length) (hS : St g M (e :: H.eraseIdx i) w) : St g M (H.set i e) w :=
  hS.perm (perm_set e hi)
theorem St.setCell {g : GW} {w : World} {M : Mem} {H : Heap} {b off : Nat} {cs : Array Value} {T : TypeId} {fz : Nat × Nat} (hS : St g M (.blk b (.cells cs T fz) :: H) w) (v : Value) : St g M (.blk b (.cells (cs.setIfInBounds off v) T fz) :: H) (w.setCell ⟨b, off, none⟩ v) := by
  have hb := hS.own _ (List.mem_cons_self ..)
  simp only [Ent.ok] at hb
  refine hS.put rfl rfl rfl (by simp [World.setCell]) ?_ (fun k hk hne => Below.heap_setCell w ⟨b, off, none⟩ v k hne)
  have hlt := (Array.getElem?_eq_some_iff.1 hb).1
  simp only [World.setCell, Array.getElem?_modify, if_true, hb]
  rfl
def putCells (cs : Array Value) (off : Nat) : List Value → Array Value
  | [] => cs
  | v :: vs => putCells (cs.setIfInBounds off v) (off + 1) vs
theorem run_storeCells {P : Program} {g : GW} {M : Mem} {H : Heap} {b off : Nat} {T : TypeId} : ∀ (vs : List Value) (i : Nat) (cs : Array Value) (w : World), St g M (.blk b (.cells cs T (0, 0)) :: H) w → off + i + vs.length ≤ cs.size → (∀ v ∈ vs, v.oneCell' = true) →
    ∃ w', (storeCells ⟨b, off, none⟩ vs i).run P w = .ok () w' ∧ St g M (.blk b (.cells (putCells cs (off + i) vs) T (0, 0)) :: H) w'
  | [], i, cs, w, hS, _, _ => ⟨w, rfl, hS⟩
  | v :: vs, i, cs, w, hS, hl, hv => by
    have hb := hS.own _ (List.mem_cons_self ..)
    simp only [Ent.ok] at hb
    simp only [List.length_cons] at hl
    have hc : w.cell? ⟨b, off + i, none⟩ = some cs[off + i] := by simp [World.cell?, hb]
    have hf : w.frozen? ⟨b, off + i, none⟩ = false := by simp [World.frozen?, hb]
    obtain ⟨w', hr, hS'⟩ := run_storeCells (P := P) (off := off) vs (i + 1) (cs.setIfInBounds (off + i) v) _ (hS.setCell (off := off + i) v) (by simp; omega) (fun u hu => hv u (List.mem_cons_of_mem _ hu))
    refine ⟨w', ?_, hS'⟩
    simp only [storeCells, Sem.run_bind, add_addr, run_store P w _ v .plain (hv v (List.mem_cons_self ..)), hc, hf, Bool.false_eq_true, if_false, Result.andThen_ok, hr]
section
variable {P : Program} {ro : RO} {ops : Array Oper} {Q : Post} {rest : List Oper} {tm : Tm} {M : Mem} {H : Heap} {o : Oper} {K : Tm → Mem → Heap → Prop} {gd : Option (Nat × Bool)}
variable {d : Option Tmp} {ty : TypeId} {pos : String} {aft : Array Edge} {x y z : Operand} {T T' : TypeId}
theorem run_v {s : Sem Value} {v : Value} {w w' : World} (h : s.run P w = .ok v w') : (do Pure.pure (Next.value (← s)) : Sem Next).run P w = .ok (.value v) w' := by
  simp [h]
theorem PV.fieldAddr {f off b q : Nat} [Fo P T f off] (hx : ev tm x = .pointer (some ⟨b, q, none⟩)) : PVM P ⟨d, .fieldAddr T x f, ty, pos, aft, gd⟩ tm M (.pointer (some ⟨b, q + off, none⟩)) :=
  .mk rfl (fun w => by simp only [execOp, hx]; exact run_v Fo.run)
theorem PV.load {b off : Nat} {v : Value} [Sc P T] (hx : ev tm x = .pointer (some ⟨b, off, none⟩)) (hc : Mc M b off = some v) : PVM P ⟨d, .load T x, ty, pos, aft, gd⟩ tm M v :=
  ⟨rfl, fun w hw => by simp only [execOp, hx]; exact run_v (run_load_sc (St.all hw) (.m (H := []) hc))⟩
theorem PH.load {b off : Nat} {v : Value} [Sc P T] (hx : ev tm x = .pointer (some ⟨b, off, none⟩)) (hc : Cel M H b off v) : PVH P ⟨d, .load T x, ty, pos, aft, gd⟩ tm M H v :=
  ⟨rfl, fun g w hS => by simp only [execOp, hx]; exact run_v (run_load_sc hS hc)⟩
theorem PV.loadA {b off n : Nat} {vs : List Value} [Ag P T n] (hx : ev tm x = .pointer (some ⟨b, off, none⟩)) (hn : vs.length = n) (hc : Cels M [] b off vs) : PVM P ⟨d, .load T x, ty, pos, aft, gd⟩ tm M (.agg vs.toArray) :=
  ⟨rfl, fun w hw => by simp only [execOp, hx]; exact run_v (run_load_ag (St.all hw) hn hc)⟩
theorem PH.loadA {b off n : Nat} {vs : List Value} [Ag P T n] (hx : ev tm x = .pointer (some ⟨b, off, none⟩)) (hn : vs.length = n) (hc : Cels M H b off vs) : PVH P ⟨d, .load T x, ty, pos, aft, gd⟩ tm M H (.agg vs.toArray) :=
  ⟨rfl, fun g w hS => by simp only [execOp, hx]; exact run_v (run_load_ag hS hn hc)⟩
theorem AS.store {b off i : Nat} {v : Value} {cs : Array Value} {T1 : TypeId} [Sc P T] (hx : ev tm x = .pointer (some ⟨b, off, none⟩)) (hy : ev tm y = v) (hv : v.oneCell' = true) (hi : H[i]? = some (.blk b (.cells cs T1 (0, 0)))) (ho : off < cs.size)
    (h : K tm M (H.set i (.blk b (.cells (cs.setIfInBounds off v) T1 (0, 0))))) : AS P ro ⟨none, .store T x y, ty, pos, aft, gd⟩ tm M H K :=
  AS.skipv rfl rfl fun g w hS => by
    obtain ⟨w', hr, hS'⟩ := run_storeCells (P := P) (off := off) [v] 0 cs w (hS.at hi) (by simp; omega) (by simpa using hv)
    have hcells : v.cells = #[v] := by cases v <;> first | rfl | cases hv
    refine ⟨w', M, _, ?_, .refl M, St.back (List.getElem?_eq_some_iff.1 hi).1 hS', h⟩
    simp only [execOp, hx, hy, Instr.storeAt, Instr.sureAddr, Sem.run_bind, Sem.run_pure, Result.andThen_ok, storeVar, hcells, Sc.size]
    simp [hr]
theorem AS.storeA {b off i n : Nat} {vs cs : Array Value} {T1 : TypeId} [Ag P T n] (hx : ev tm x = .pointer (some ⟨b, off, none⟩)) (hy : ev tm y = .agg vs) (hn : vs.size = n) (hv : ∀ v ∈ vs.toList, v.oneCell' = true) (hi : H[i]? = some (.blk b (.cells cs T1 (0, 0)))) (ho : off + n ≤ cs.size)
    (h : K tm M (H.set i (.blk b (.cells (putCells cs off vs.toList) T1 (0, 0))))) : AS P ro ⟨none, .store T x y, ty, pos, aft, gd⟩ tm M H K :=
  AS.skipv rfl rfl fun g w hS => by
    obtain ⟨w', hr, hS'⟩ := run_storeCells (P := P) (off := off) vs.toList 0 cs w (hS.at hi) (by simp; omega) hv
    refine ⟨w', M, _, ?_, .refl M, St.back (List.getElem?_eq_some_iff.1 hi).1 hS', h⟩
    simp only [execOp, hx, hy, Instr.storeAt, Instr.sureAddr, Sem.run_bind, Sem.run_pure, Result.andThen_ok, storeVar, Value.cells, Ag.size]
    simp [hn, hr]
theorem AS.box {v : Value} (hx : ev tm x = v) (h : ∀ b, K (putL tm d (.pointer (some ⟨b, 0, none⟩))) M (.blk b (.cells v.cells T (0, 0)) :: H)) : AS P ro ⟨d, .box T x, ty, pos, aft, gd⟩ tm M H K :=
  AS.val rfl fun g w hS => ⟨_, _, M, _, by simp only [execOp, hx]; exact run_v rfl, .refl M, hS.alloc _, h _⟩
theorem AS.alloc {v : Value} [Zr P T v] (h : ∀ b, K (putL tm d (.pointer (some ⟨b, 0, none⟩))) M (.blk b (.cells v.cells T (0, 0)) :: H)) : AS P ro ⟨d, .alloc T, ty, pos, aft, gd⟩ tm M H K :=
  AS.val rfl fun g w hS => ⟨.pointer (some ⟨w.heap.size, 0, none⟩), w.alloc (.cells v.cells T (0, 0)), M, _, by
    simp only [execOp]
    refine run_v ?_
    simp only [Instr.alloc, Sem.run_bind, Zr.run (v := v), Result.andThen_ok]
    rfl, .refl M, hS.alloc _, h _⟩
/-- An own block becomes memory that stays. -/
theorem AO.keep {l : List Oper} {b : Nat} {ob : Obj} (i : Nat) (hi : H[i]? = some (.blk b ob)) (h : ∀ M', M.le M' → M' b = some ob → AO P ro ops Q l tm M' (H.eraseIdx i)) : AO P ro ops Q l tm M H := fun g w hS => by
  have hk := (hS.at hi).keep
  exact AO.weaken hk.1 hk.2 (h _ hk.1 (Mem.add_self ..))
theorem AW.weaken {c : Code} {M' : Mem} {H' : Heap} {g : GW} {w : World} {tm' : Tm} (hM : M.le M') (hS : St g M' H' w) (h : AW P ro c Q tm' M' H') : c.wpIn (fw ro.ro) 0 P (lift ro.fx g M Q) (act g.ds tm') w :=
  wpIn_mono (h g w hS) fun e a w hl => lift_mono hM (fun _ _ _ _ _ h => h) hl
theorem AW.keep {c : Code} {b : Nat} {ob : Obj} (i : Nat) (hi : H[i]? = some (.blk b ob)) (h : ∀ M', M.le M' → M' b = some ob → AW P ro c Q tm M' (H.eraseIdx i)) : AW P ro c Q tm M H := fun g w hS => by
  have hk := (hS.at hi).keep
  exact AW.weaken hk.1 hk.2 (h _ hk.1 (Mem.add_self ..))
theorem AO.drop {l : List Oper} {H' : Heap} (hs : List.Sublist H' H) (h : AO P ro ops Q l tm M H') : AO P ro ops Q l tm M H := fun g w hS => h g w (hS.sub hs)
theorem AW.drop {c : Code} {H' : Heap} (hs : List.Sublist H' H) (h : AW P ro c Q tm M H') : AW P ro c Q tm M H := fun g w hS => h g w (hS.sub hs)
theorem AO.perm {l : List Oper} {H' : Heap} (hs : List.Perm H' H) (h : AO P ro ops Q l tm M H') : AO P ro ops Q l tm M H := fun g w hS => h g w (hS.perm hs)
end
end Go.Proofs.YtieaiheejhmbfaaGreatDoor.ML
/- The abstract layer: slices, strings, calls, a function's entry and its results. No conditions. -/
namespace Go.Proofs.YtieaiheejhmbfaaGreatDoor.ML
open Go.RowKit
set_option linter.unusedVariables false
set_option linter.unusedSimpArgs false
section
variable {P : Program} {ro : RO} {ops : Array Oper} {Q : Post} {rest : List Oper} {tm : Tm} {M : Mem} {H : Heap} {K : Tm → Mem → Heap → Prop} {gd : Option (Nat × Bool)}
variable {d : Option Tmp} {ty : TypeId} {pos : String} {aft : Array Edge} {x y z : Operand} {T T' : TypeId} {k k' : IntKind} {i j : Int}
/-! ### Strings -/
def byt (s : ByteArray) (i : Int) : Int := ((s.data.toList.getD i.toNat 0).toNat : Int)
theorem byt_nonneg (s : ByteArray) (i : Int) : 0 ≤ byt s i := Int.natCast_nonneg _
theorem byt_lt (s : ByteArray) (i : Int) : byt s i < 256 := by
  unfold byt; have := (s.data.toList.getD i.toNat 0).toNat_lt; omega
theorem PV.lenS {s : ByteArray} [Str P T] (hx : ev tm x = .string s) : PVM P ⟨d, .call ⟨.builtin .len, #[x], #[T]⟩, ty, pos, aft, gd⟩ tm M (.int .i64 s.size) :=
  .mk rfl (fun w => by simp [execOp, resolve, hx, invoke, builtin, Builtin.len_, run_underlying (Str.out (P := P) (t := T)), goInt])
theorem PV.index {s : ByteArray} [Str P T] (hx : ev tm x = .string s) (hy : ev tm y = .int k i) (h0 : 0 ≤ i) (h1 : i < s.size) : PVM P ⟨d, .index T x y, ty, pos, aft, gd⟩ tm M (.int .u8 (byt s i)) :=
  .mk rfl (fun w => by
    have hn : i.toNat < s.size := by omega
    have hb : s[i.toNat]? = some (s.data.toList.getD i.toNat 0) := by
      have e : s[i.toNat]? = some s[i.toNat] := by simp [getElem?_pos, hn]
      rw [e]
      have e2 : s.data[i.toNat]? = some s[i.toNat] := Array.getElem?_eq_getElem hn
      simp [List.getD, e, e2]
    simp only [execOp, hx, hy]
    refine run_v ?_
    simp [Instr.index, asIntOf, run_underlying (Str.out (P := P) (t := T)), h0, hb, byt])
theorem sliceB {v : Value} {w : World} {y : Nat} {c : BoundsCode} (hv : v = .int k i) (h0 : 0 ≤ i) (h1 : i ≤ y) : (Instr.sliceBound v y c).run P w = .ok i.toNat w := by
  subst hv; simp [Instr.sliceBound, asIntOf, h0, h1]
theorem PV.sliceS {s : ByteArray} [h : Str P T] (hx : ev tm x = .string s) (hy : ev tm y = .int k i) (hz : ev tm z = .int k' j) (h0 : 0 ≤ i) (h1 : i ≤ j) (h2 : j ≤ s.size) : PVM P ⟨d, .slice T x (some y) (some z) none, ty, pos, aft, gd⟩ tm M (.string (s.extract i.toNat j.toNat)) :=
  .mk rfl (fun w => by
    simp only [execOp, hx, Option.map_some, Option.map_none]
    refine run_v ?_
    simp [Instr.sliceAt, run_underlying h.out, Instr.slice, Instr.sliceBounds, sliceB hz (by omega) h2, sliceB (y := j.toNat) hy h0 (by omega)])
theorem PV.sliceSl {s : ByteArray} [h : Str P T] (hx : ev tm x = .string s) (hy : ev tm y = .int k i) (h0 : 0 ≤ i) (h1 : i ≤ s.size) : PVM P ⟨d, .slice T x (some y) none none, ty, pos, aft, gd⟩ tm M (.string (s.extract i.toNat s.size)) :=
  .mk rfl (fun w => by
    simp only [execOp, hx, Option.map_some, Option.map_none]
    refine run_v ?_
    simp [Instr.sliceAt, run_underlying h.out, Instr.slice, Instr.sliceBounds, sliceB (y := s.size) hy h0 (by omega)])
theorem PV.sliceSh {s : ByteArray} [h : Str P T] (hx : ev tm x = .string s) (hz : ev tm z = .int k' j) (h0 : 0 ≤ j) (h2 : j ≤ s.size) : PVM P ⟨d, .slice T x none (some z) none, ty, pos, aft, gd⟩ tm M (.string (s.extract 0 j.toNat)) :=
  .mk rfl (fun w => by
    simp only [execOp, hx, Option.map_some, Option.map_none]
    refine run_v ?_
    simp [Instr.sliceAt, run_underlying h.out, Instr.slice, Instr.sliceBounds, sliceB (y := s.size) hz h0 h2])
/-! ### Slices -/
theorem PV.len {A : Option Addr} {n c E s : Nat} [h : El P T E s] (hx : ev tm x = .slice A n c) : PVM P ⟨d, .call ⟨.builtin .len, #[x], #[T]⟩, ty, pos, aft, gd⟩ tm M (.int .i64 n) :=
  .mk rfl (fun w => by simp [execOp, resolve, hx, invoke, builtin, Builtin.len_, (h.run (w := w)).1, goInt])
theorem PV.indexAddr {b o n c E s : Nat} [h : El P T E s] (hx : ev tm x = .slice (some ⟨b, o, none⟩) n c) (hy : ev tm y = .int k i) (h0 : 0 ≤ i) (h1 : i < n) : PVM P ⟨d, .indexAddr T x y, ty, pos, aft, gd⟩ tm M (.pointer (some ⟨b, o + i.toNat * s, none⟩)) :=
  .mk rfl (fun w => by
    simp only [execOp, hx, hy]
    refine run_v ?_
    simp [Instr.indexAt, asIntOf, (h.run (w := w)).1, (h.run (w := w)).2, h0, h1, add_addr])
def dropA (A : Option Addr) (s i c : Nat) : Option Addr := if c = i then A else A.map (·.add (i * s))
theorem PV.sliceL {A : Option Addr} {n c E s : Nat} [h : El P T E s] (hx : ev tm x = .slice A n c) (hy : ev tm y = .int k i) (h0 : 0 ≤ i) (h1 : i ≤ n) : PVM P ⟨d, .slice T x (some y) none none, ty, pos, aft, gd⟩ tm M (.slice (dropA A s i.toNat c) (n - i.toNat) (c - i.toNat)) :=
  .mk rfl (fun w => by
    simp only [execOp, hx, Option.map_some, Option.map_none]
    refine run_v ?_
    simp [Instr.sliceAt, (h.run (w := w)).1, (h.run (w := w)).2, Instr.slice, Instr.sliceBounds, sliceB (y := n) hy h0 h1, dropA])
theorem PV.sliceH {A : Option Addr} {n c E s : Nat} [h : El P T E s] (hx : ev tm x = .slice A n c) (hy : ev tm y = .int k i) (h0 : 0 ≤ i) (h1 : i ≤ c) : PVM P ⟨d, .slice T x none (some y) none, ty, pos, aft, gd⟩ tm M (.slice A i.toNat c) :=
  .mk rfl (fun w => by
    simp only [execOp, hx, Option.map_some, Option.map_none]
    refine run_v ?_
    have e : (A.map fun a : Addr => a.add (0 * s)) = A := by cases A <;> simp [Addr.add]
    simp [Instr.sliceAt, (h.run (w := w)).1, (h.run (w := w)).2, Instr.slice, Instr.sliceBounds, sliceB (y := c) hy h0 h1]
    intro _; cases A <;> simp [Addr.add])
/-! ### Calls -/
class Fn (P : Program) (k : Nat) : Prop where out : ∃ fn, P.funcs[k]? = some fn ∧ (fn.name == "runtime.NumGoroutine") = false ∧ fn.body.isSome = true
theorem run_callFunc {f : Nat} [h : Fn P f] (args : Array Value) (w : World) : (callFunc f args).run P w = .ok (.enter f args) w := by
  obtain ⟨fn, hf, hname, hb⟩ := h.out
  have h1 : fn.name ≠ "runtime.NumGoroutine" := by simpa using hname
  obtain ⟨c, hc⟩ := Option.isSome_iff_exists.1 hb
  simp [callFunc, hf, h1, hc]
theorem AS.call {f : Nat} {fst cap : Array Value} {args : Array Operand} {ts : Array TypeId} {as : List Value} [Fn P f] (hx : ev tm x = .func (.func f) fst cap) (ha : fst.toList ++ args.toList.map (ev tm) ++ cap.toList = as)
    (h : AC P f as M H fun v M' H' => K (putL tm d v) M' H') : AS P ro ⟨d, .call ⟨.value x, args, ts⟩, ty, pos, aft, gd⟩ tm M H K := fun g w hS => by
  refine ⟨fun _ _ => trivial, ?_⟩
  have hrun : (execOp (ev tm) ⟨d, .call ⟨.value x, args, ts⟩, ty, pos, aft, gd⟩).run P w = .ok (.enter f as.toArray) w := by
    have hm : fst ++ args.map (ev tm) ++ cap = as.toArray := by rw [← ha]; simp
    simp only [execOp, resolve, hx, Deferred.ofValue, Sem.run_bind, Sem.run_pure, Result.andThen_ok, invoke, hm, run_callFunc]
  rw [show (fw ro.ro).round = ro.ro from rfl, semAt_exec rfl, ev_act, hrun, Oper.uponIn_enter]
  refine ⟨fun hd => by simp [fw, Fence.wide] at hd, ?_⟩
  have hc := callsIn_n (n' := 0 - 1) (h g w hS)
  have hc' : CallsIn (fw ro.ro) (0 - 1) P f as.toArray w _ := hc
  refine hc'.mono fun e w' hh => ?_
  obtain ⟨v, M', H', rfl, hM, hS', hk⟩ := hh
  show hold g M K ((act g.ds tm).put d v) w'
  rw [put_act]
  exact ⟨_, _, _, rfl, hM, hS', hk⟩
theorem AC.mono {f : Nat} {as : List Value} {R R' : Value → Mem → Heap → Prop} (h : AC P f as M H R) (hr : ∀ v M' H', M.le M' → R v M' H' → R' v M' H') : AC P f as M H R' := fun g w hS =>
  (h g w hS).mono fun e w' ⟨v, M', H', h1, h2, h3, h4⟩ => ⟨v, M', H', h1, h2, h3, hr _ _ _ h2 h4⟩
/-- What a function hands back, read off its slots. -/
def Res (P : Program) (fn : Func) (tm : Tm) (M : Mem) (H : Heap) (v : Value) : Prop := ∀ g w, St g M H w → (results fn tm.toArray).run P w = .ok v w
def bodyP (P : Program) (fn : Func) (R : Value → Mem → Heap → Prop) : Post
  | .normal, tm, M, H | .ret, tm, M, H => ∃ v, Res P fn tm M H v ∧ ∃ H3, List.Sublist H3 H ∧ R v M H3
  | _, _, _, _ => False
theorem St.fresh {g : GW} {w : World} (hS : St g M H w) : St ⟨w, []⟩ M H w := ⟨rfl, rfl, rfl, Nat.le_refl _, hS.mem, hS.own, hS.nodup, hS.apart, .nil⟩
theorem St.onto {g : GW} {ds : List Deferred} {w w' : World} {M' : Mem} {H' : Heap} (hS : St g M H w) (h : St ⟨w, ds⟩ M' H' w') (hM : M.le M') : St g M' H' w' :=
  ⟨h.os.trans hS.os, h.tape.trans hS.tape, h.output.trans hS.output, Nat.le_trans hS.size h.size, h.mem, h.own, h.nodup, h.apart, hS.dsok.mono hM⟩
theorem AC.of {f : Nat} {fn : Func} {c : Code} {as : List Value} {n : Nat} {R : Value → Mem → Heap → Prop} (hf : P.funcs[f]? = some fn) (hb : fn.body = some c) (hn : fn.ntmps - as.length = n)
    (h : AW P ⟨none, true⟩ c (bodyP P fn R) (as ++ List.replicate n undef) M H) : AC P f as M H R := fun g w hS => by
  refine callsIn_of_wp hf hb trivial ?_ rfl
  have ha : ({ tmps := as.toArray ++ Array.replicate (fn.ntmps - as.toArray.size) undef, defers := [] } : Act) = act [] (as ++ List.replicate n undef) := by
    simp [act, hn]
  rw [ha]
  refine wpIn_mono (h ⟨w, []⟩ w hS.fresh) fun e a w' hl => ?_
  obtain ⟨ds, tm', M', H', hfx, rfl, hM, hS', hq⟩ := hl
  obtain rfl : ds = [] := hfx rfl
  cases e with
  | normal => obtain ⟨v, hr, H3, hs, hR⟩ := hq; exact ⟨rfl, v, hr _ w' hS', v, M', H3, rfl, hM, (hS.onto hS' hM).sub hs, hR⟩
  | ret => obtain ⟨v, hr, H3, hs, hR⟩ := hq; exact ⟨rfl, v, hr _ w' hS', v, M', H3, rfl, hM, (hS.onto hS' hM).sub hs, hR⟩
  | _ => exact hq.elim
theorem Res.zero {fn : Func} (h : fn.results = #[]) : Res P fn tm M H (.tuple #[]) := fun g w _ => by simp [results, h]
theorem Res.one {fn : Func} {t : Nat} (h : fn.results = #[.tmp t]) : Res P fn tm M H (tm.getD t undef) := fun g w _ => by simp [results, h]
theorem Res.two {fn : Func} {t u : Nat} (h : fn.results = #[.tmp t, .tmp u]) : Res P fn tm M H (.tuple #[tm.getD t undef, tm.getD u undef]) := fun g w _ => by simp [results, h]
theorem Res.cel {fn : Func} {t T b off : Nat} {v : Value} [Sc P T] (h : fn.results = #[.cell t T]) (hx : tm.getD t undef = .pointer (some ⟨b, off, none⟩)) (hc : Cel M H b off v) : Res P fn tm M H v := fun g w hS => by
  have := run_load_sc (P := P) (T := T) hS hc
  simp only [Instr.loadAt, Instr.sureAddr, Sem.run_bind, Sem.run_pure, Result.andThen_ok] at this
  have hx' : tm[t]?.getD undef = .pointer (some ⟨b, off, none⟩) := by simpa using hx
  simp [results, h, hx', asAddr, this]
theorem Res.celA {fn : Func} {t T b off n : Nat} {vs : List Value} [Ag P T n] (h : fn.results = #[.cell t T]) (hx : tm.getD t undef = .pointer (some ⟨b, off, none⟩)) (hn : vs.length = n) (hc : Cels M H b off vs) : Res P fn tm M H (.agg vs.toArray) := fun g w hS => by
  have := run_load_ag (P := P) (T := T) hS hn hc
  simp only [Instr.loadAt, Instr.sureAddr, Sem.run_bind, Sem.run_pure, Result.andThen_ok] at this
  have hx' : tm[t]?.getD undef = .pointer (some ⟨b, off, none⟩) := by simpa using hx
  simp [results, h, hx', asAddr, this]
theorem Res.celA2 {fn : Func} {t T b off n u : Nat} {vs : List Value} [Ag P T n] (h : fn.results = #[.cell t T, .tmp u]) (hx : tm.getD t undef = .pointer (some ⟨b, off, none⟩)) (hn : vs.length = n) (hc : Cels M H b off vs) : Res P fn tm M H (.tuple #[.agg vs.toArray, tm.getD u undef]) := fun g w hS => by
  have := run_load_ag (P := P) (T := T) hS hn hc
  simp only [Instr.loadAt, Instr.sureAddr, Sem.run_bind, Sem.run_pure, Result.andThen_ok] at this
  have hx' : tm[t]?.getD undef = .pointer (some ⟨b, off, none⟩) := by simpa using hx
  simp [results, h, hx', asAddr, this]
end
end Go.Proofs.YtieaiheejhmbfaaGreatDoor.ML
