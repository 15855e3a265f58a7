/- The plain laws of the enumeration of values, and values laid in rows. No conditions. -/
import Derived.Test.YtieaiheejhmbfaaGreatDoorPk5
import Derived.Test.YtieaiheejhmbfaaGreatDoorPk12
import Derived.Test.YtieaiheejhmbfaaGreatDoorPk11
namespace Go.Proofs.YtieaiheejhmbfaaGreatDoor.ML
open Go.RowKit
set_option linter.unusedVariables false
set_option linter.unusedSimpArgs false
/-- Cells that hold values. -/
def FlV (M : Mem) : List Value → List VT → Prop
  | cs, [] => cs = []
  | cs, v :: l => ∃ A c cs', cs = .int .i64 v.num :: .int .i64 v.con :: .slice A v.args.length c :: cs' ∧ VV M A c v ∧ FlV M cs' l
theorem FlV.up {M M' : Mem} [LeT M M'] : ∀ {l : List VT} {cs : List Value}, FlV M cs l → FlV M' cs l
  | [], _, h => h
  | v :: l, _, h => by obtain ⟨A, c, cs', h1, h2, h3⟩ := h; exact ⟨A, c, cs', h1, h2.up, h3.up⟩
theorem FlV.app {M : Mem} : ∀ {l l' : List VT} {cs cs' : List Value}, FlV M cs l → FlV M cs' l' → FlV M (cs ++ cs') (l ++ l')
  | [], _, _, _, h, h' => by cases h; exact h'
  | v :: l, _, _, _, h, h' => by obtain ⟨A, c, cs', rfl, h2, h3⟩ := h; exact ⟨A, c, _, rfl, h2, h3.app h'⟩
theorem FlV.one {M : Mem} {v : VT} {A : Option Addr} {c : Nat} (h : VV M A c v) : FlV M [.int .i64 v.num, .int .i64 v.con, .slice A v.args.length c] [v] := ⟨A, c, [], rfl, h, rfl⟩
theorem FlV.len {M : Mem} : ∀ {l : List VT} {cs : List Value}, FlV M cs l → cs.length = l.length * 3
  | [], _, h => by cases h; rfl
  | v :: l, _, h => by obtain ⟨A, c, cs', rfl, h2, h3⟩ := h; have := h3.len; simp; omega
theorem FlV.at {M : Mem} : ∀ {l : List VT} {cs : List Value}, FlV M cs l → ∀ i (h : i < l.length), ∃ A c, VV M A c l[i] ∧ cs[i * 3]? = some (.int .i64 l[i].num) ∧ cs[i * 3 + 1]? = some (.int .i64 l[i].con) ∧ cs[i * 3 + 2]? = some (.slice A l[i].args.length c)
  | [], _, _, i, h => by simp at h
  | v :: l, _, h, 0, _ => by obtain ⟨A, c, cs', rfl, h2, h3⟩ := h; exact ⟨A, c, h2, rfl, rfl, rfl⟩
  | v :: l, _, h, i + 1, hi => by
    obtain ⟨A, c, cs', rfl, h2, h3⟩ := h
    obtain ⟨A', c', a1, a2, a3, a4⟩ := h3.at i (by simpa using hi)
    refine ⟨A', c', a1, ?_, ?_, ?_⟩
    · rw [show (i + 1) * 3 = i * 3 + 1 + 1 + 1 by omega]; simpa using a2
    · rw [show (i + 1) * 3 + 1 = i * 3 + 1 + 1 + 1 + 1 by omega]; simpa using a3
    · rw [show (i + 1) * 3 + 2 = i * 3 + 2 + 1 + 1 + 1 by omega]; simpa using a4
/-- A row of values that stays reads as their list. -/
theorem Kept.vals {M : Mem} {A : Option Addr} {n c : Nat} {cs : List Value} {l : List VT} (h : Kept M A n c 3 cs) (hf : FlV M cs l) (hb : l.length ≤ 140737488355328) : n = l.length ∧ RdS 3 (RdV M) A c l := by
  obtain ⟨h1, h2, h3⟩ := h
  have hl := hf.len
  have hn : n = l.length := by omega
  subst hn
  refine ⟨rfl, h2, hb, ?_⟩
  rcases Nat.eq_zero_or_pos l.length with h0 | h0
  · exact ⟨0, 0, fun hne => absurd (List.eq_nil_of_length_eq_zero h0) hne, fun i hi => by omega⟩
  · obtain ⟨b, hA, hc⟩ := h3 h0
    refine ⟨b, 0, fun _ => hA, fun i hi => ?_⟩
    obtain ⟨A', c', a1, a2, a3, a4⟩ := hf.at i hi
    rw [Nat.zero_add]
    exact RdV.of ⟨hc _ _ a2⟩ ⟨hc _ _ a3⟩ ⟨hc _ _ a4⟩ a1
/-- A value with short lists of parts. -/
inductive VBd : VT → Prop
  | mk {n c : Int} {l : List VT} (h : l.length ≤ 1000000) (hl : ∀ x ∈ l, VBd x) : VBd (.mk n c l)
theorem VBd.len {v : VT} (h : VBd v) : v.args.length ≤ 1000000 := by cases h; assumption
theorem VBd.mem {v : VT} (h : VBd v) {x : VT} (hx : x ∈ v.args) : VBd x := by cases h with | mk _ hl => exact hl x hx
/-! ### Visits that can be left -/
def sf {σ α : Type} (f : σ → α → σ × Bool) : σ → List α → σ × Bool
  | s, [] => (s, true)
  | s, v :: l => if (f s v).2 = true then sf f (f s v).1 l else ((f s v).1, false)
theorem sf_app {σ α : Type} (f : σ → α → σ × Bool) : ∀ (l l' : List α) (s : σ), sf f s (l ++ l') = if (sf f s l).2 = true then sf f (sf f s l).1 l' else sf f s l
  | [], l', s => by simp [sf]
  | v :: l, l', s => by
    rw [List.cons_append, sf, sf]
    split
    · rename_i h; rw [sf_app f l l']
    · simp
theorem sf_flat {σ α β : Type} (f : σ → β → σ × Bool) (g : α → List β) : ∀ (l : List α) (s : σ), sf f s (l.flatMap g) = sf (fun s x => sf f s (g x)) s l
  | [], s => rfl
  | v :: l, s => by
    rw [List.flatMap_cons, sf_app, sf, sf_flat f g l]
    split
    · rfl
    · rename_i h
      have : (sf f s (g v)).2 = false := by simpa using h
      rw [← this]
theorem sf_map {σ α β : Type} (f : σ → β → σ × Bool) (g : α → β) : ∀ (l : List α) (s : σ), sf f s (l.map g) = sf (fun s x => f s (g x)) s l
  | [], s => rfl
  | v :: l, s => by rw [List.map_cons, sf, sf, sf_map f g l]
theorem sf_snd {σ α : Type} {f : σ → α → σ × Bool} {s : σ} {l : List α} (h : (sf f s l).2 = false) : sf f s l = ((sf f s l).1, false) := by rw [← h]
def lsV (ex : Int → Nat → List VT) : List Int → Nat → List (List VT)
  | [], k => if k = 0 then [[]] else []
  | t :: ts, k => (List.range (k + 1)).flatMap fun j => (ex t j).flatMap fun v => (lsV ex ts (k - j)).map (v :: ·)
def conV (ls : List Int → Nat → List (List VT)) (k : Nat) (i : Nat) (c : CT) : List VT :=
  if c.fields.length = 0 then (if k = 0 then [⟨0, i, []⟩] else []) else if k = 0 then [] else (ls c.fields (k - 1)).map fun l => ⟨0, i, l⟩
def consV (ls : List Int → Nat → List (List VT)) (k : Nat) : Nat → List CT → List VT
  | _, [] => []
  | i, c :: cs => conV ls k i c ++ consV ls k (i + 1) cs
def exA (d : List DT) : Nat → Int → Nat → List VT
  | 0, _, _ => []
  | n + 1, t, k => if t = 0 then (if k = 0 then [⟨0, 0, []⟩, ⟨1, 0, []⟩] else []) else consV (lsV (exA d n)) k 0 (consF d t)
theorem consV_at (ls : List Int → Nat → List (List VT)) (k : Nat) : ∀ (cs : List CT) (i j : Nat) (h : j < cs.length), consV ls k (i + j) (cs.drop j) = conV ls k (i + j) cs[j] ++ consV ls k (i + (j + 1)) (cs.drop (j + 1))
  | cs, i, j, h => by rw [List.drop_eq_getElem_cons h, consV]; rfl
/-- A callback that takes values. -/
def CbV (P : Program) (M : Mem) (fy : Value) {σ : Type} (J : Bool → σ → Heap) (f : σ → VT → σ × Bool) : Prop :=
  ∀ (M' : Mem) (_ : LeT M M') (s : σ) (v : VT) (A : Option Addr) (c : Nat), VBd v → VV M' A c v → AV P fy [.agg #[.int .i64 v.num, .int .i64 v.con, .slice A v.args.length c]] M' (J true s) fun r _ H' => r = .bool (f s v).2 ∧ H' = J (f s v).2 (f s v).1
/-- A callback that takes lists of values of a length. -/
def CbL (P : Program) (M : Mem) (fy : Value) (m : Nat) {σ : Type} (J : Bool → σ → Heap) (f : σ → List VT → σ × Bool) : Prop :=
  ∀ (M' : Mem) (_ : LeT M M') (s : σ) (l : List VT) (A : Option Addr) (c : Nat), l.length = m → (∀ x ∈ l, VBd x) → RdS 3 (RdV M') A c l → (l = [] → A = none ∧ c = 0) → AV P fy [.slice A l.length c] M' (J true s) fun r _ H' => r = .bool (f s l).2 ∧ H' = J (f s l).2 (f s l).1
theorem CbV.up {P : Program} {M M' : Mem} {fy : Value} {σ : Type} {J : Bool → σ → Heap} {f : σ → VT → σ × Bool} [q : LeT M M'] (h : CbV P M fy J f) : CbV P M' fy J f := fun M2 q2 => h M2 ⟨q.out.trans q2.out⟩
theorem CbL.up {P : Program} {M M' : Mem} {fy : Value} {m : Nat} {σ : Type} {J : Bool → σ → Heap} {f : σ → List VT → σ × Bool} [q : LeT M M'] (h : CbL P M fy m J f) : CbL P M' fy m J f := fun M2 q2 => h M2 ⟨q.out.trans q2.out⟩
/-- A value of one cell. -/
class Fv (v : Value) : Prop where out : v.oneCell' = true
instance {f : Go.Fn} {a b : Array Value} : Fv (.func f a b) := ⟨rfl⟩
instance (priority := low) {v : Value} [h : Fv v] : Cl v [v] := ⟨by have := h.out; cases v <;> first | rfl | cases this⟩
instance (priority := low) {v : Value} [h : Fv v] : One v := ⟨h.out⟩
section
variable {P : Program} {ro : RO} {tm : Tm} {F : Value → Tm} {M : Mem} {H : Heap} {K : Tm → Mem → Heap → Prop} {gd : Option (Nat × Bool)}
variable {d : Nat} {ty : TypeId} {pos : String} {aft : Array Edge} {x : Operand}
theorem S.callV {fv : Value} {args : List Operand} {us : List Value} {ts : Array TypeId} [hx : Ev tm x fv] [ha : Evs tm args us] [hp : Pt tm d F] (h : AV P fv us M H fun v M' H' => K (F v) M' H') :
    AS P ro ⟨some d, .call ⟨.value x, args.toArray, ts⟩, ty, pos, aft, gd⟩ tm M H K :=
  h ro x args.toArray ts (some d) ty pos aft gd tm K hx.out (by simpa using ha.out) fun v M' H' _ hk => by show K (tm.set d v) M' H'; rw [hp.out]; exact hk
theorem AO.heq {Q : Post} {ops : Array Oper} {l : List Oper} {H' : Heap} (e : H = H') (h : AO P ro ops Q l tm M H') : AO P ro ops Q l tm M H := e ▸ h
theorem AW.heq {Q : Post} {c : Code} {H' : Heap} (e : H = H') (h : AW P ro c Q tm M H') : AW P ro c Q tm M H := e ▸ h
theorem AV.use {fv : Value} {av : List Value} {R R' : Value → Mem → Heap → Prop} (h : AV P fv av M H R) (hr : ∀ v M' H', Le M M' → R v M' H' → R' v M' H') : AV P fv av M H R' := h.mono fun v M' H' hM h => hr v M' H' ⟨hM⟩ h
end
theorem RdS.flat {M : Mem} {A : Option Addr} {c : Nat} {l : List VT} (h : RdS 3 (RdV M) A c l) (hne : l ≠ []) : ∃ b o us, A = some ⟨b, o, none⟩ ∧ FlV M us l ∧ ∀ j v, us[j]? = some v → Mc M b (o + j) = some v := by
  obtain ⟨h1, hb, b, o, hA, hel⟩ := h
  refine ⟨b, o, ?_⟩
  have key : ∀ (l : List VT) (o : Nat), (∀ i (h : i < l.length), RdV M b (o + i * 3) l[i]) → ∃ us, FlV M us l ∧ ∀ j v, us[j]? = some v → Mc M b (o + j) = some v := by
    intro l
    induction l with
    | nil => intro o _; exact ⟨[], rfl, fun j v hj => by simp at hj⟩
    | cons x l ih =>
      intro o hel
      obtain ⟨us, hu, hc⟩ := ih (o + 3) fun i hi => by
        have := hel (i + 1) (by simpa using hi)
        rw [show o + 3 + i * 3 = o + (i + 1) * 3 by omega]
        simpa using this
      obtain ⟨A', c', x0, x1, x2, xs⟩ := (hel 0 (by simp)).get
      refine ⟨_, ⟨A', c', us, rfl, xs, hu⟩, fun j v hj => ?_⟩
      match j with
      | 0 => simp at hj; subst hj; simpa using x0.out
      | 1 => simp at hj; subst hj; simpa using x1.out
      | 2 => simp at hj; subst hj; simpa using x2.out
      | j + 3 => have := hc j v (by simpa using hj); rwa [show o + 3 + j = o + (j + 3) by omega] at this
  obtain ⟨us, hu, hc⟩ := key l o hel
  exact ⟨us, hA hne, hu, hc⟩
theorem FlV.ones {M : Mem} : ∀ {l : List VT} {cs : List Value}, FlV M cs l → ∀ u ∈ cs, u.oneCell' = true
  | [], _, h => by cases h; simp
  | v :: l, _, h => by
    obtain ⟨A, c, cs', rfl, h2, h3⟩ := h
    intro u hu
    simp only [List.mem_cons] at hu
    rcases hu with rfl | rfl | rfl | hu
    · rfl
    · rfl
    · rfl
    · exact h3.ones u hu
theorem Cels.ofM {M : Mem} {H : Heap} {b : Nat} : ∀ (us : List Value) (o : Nat), (∀ j v, us[j]? = some v → Mc M b (o + j) = some v) → Cels M H b o us
  | [], _, _ => trivial
  | u :: us, o, h => ⟨.m (by simpa using h 0 u rfl), Cels.ofM us (o + 1) fun j v hj => by have := h (j + 1) v (by simpa using hj); rwa [show o + (j + 1) = o + 1 + j by omega] at this⟩
section
variable {P : Program} {ro : RO} {tm : Tm} {F : Value → Tm} {M : Mem} {H : Heap} {K : Tm → Mem → Heap → Prop} {gd : Option (Nat × Bool)}
variable {d : Nat} {ty : TypeId} {pos : String} {aft : Array Edge} {x y : Operand} {T : TypeId}
theorem AS.blkR {o : Oper} {b E n z : Nat} {us : List Value} (hu : us.length = n * z) (hn : n ≤ maxLen) (h : AS P ro o tm M (.row (some ⟨b, 0, none⟩) n n E z us :: H) K) : AS P ro o tm M (.blk b (.cells us.toArray E (0, 0)) :: H) K := fun g w hS => h g w (hS.blkR hu hn)
/-- append of values that stay to a literal of one value, that lies first. -/
theorem S.apV {g E b c cc : Nat} {A : Option Addr} {us : List Value} {l : List VT} [hx : Ev tm x (.slice (some ⟨g, 0, none⟩) 1 c)] [hy : Ev tm y (.slice A l.length cc)] [Ap P T E 3 b] [hp : Pt tm d F] (hc : c = 1) (hu : us.length = 3) (hl : RdS 3 (RdV M) A cc l) (h0 : l = [] → A = none ∧ cc = 0) (hb : (1 + l.length) * b ≤ 140737488355328) (hb2 : 1 + l.length ≤ 9223372036854775807)
    (h : ∀ A' c' vs, FlV M vs l → K (F (.slice A' (l.length + 1) c')) M (.row A' (l.length + 1) c' E 3 (us ++ vs) :: H)) : AS P ro ⟨some d, .call ⟨.builtin .append, #[x, y], #[T, T]⟩, ty, pos, aft, gd⟩ tm M (.blk g (.cells us.toArray E (0, 0)) :: H) K := by
  subst hc
  refine AS.blkR (n := 1) (z := 3) (by omega) (by unfold maxLen; omega) ?_
  by_cases hne : l = []
  · obtain ⟨rfl, rfl⟩ := h0 hne
    subst hne
    refine AS.append0 (A := some ⟨g, 0, none⟩) (n := 1) (c := 1) (z := 3) (b := b) (r := 0) hx.out hy.out rfl ?_
    have := h (some ⟨g, 0, none⟩) 1 [] rfl
    rw [List.append_nil] at this
    show K (tm.set d _) M _
    rw [hp.out]
    exact this
  · obtain ⟨b1, o1, vs, hA, hf, hc⟩ := hl.flat hne
    subst hA
    refine AS.append (A := some ⟨g, 0, none⟩) (n := 1) (c := 1) (z := 3) (b := b) (r := 0) (m := l.length) (cc := cc) (us := vs) hx.out hy.out rfl hf.len (Cels.ofM vs o1 hc) hf.ones (by omega) (by omega) fun A' c' => ?_
    show K (tm.set d _) M _
    rw [hp.out, Nat.add_comm]
    exact h A' c' vs hf
theorem AS.kp {o : Oper} {A : Option Addr} {n c E z : Nat} {vs : List Value} (h : ∀ M', Le M M' → Kept M' A n c z vs → AS P ro o tm M' H K) : AS P ro o tm M (.row A n c E z vs :: H) K := fun g w hS => by
  obtain ⟨M', h1, h2, h3⟩ := hS.keepR
  exact opIn_mono (fun a w ⟨tm1, M1, H1, e, hM, hS1, hk⟩ => ⟨tm1, M1, H1, e, h1.trans hM, hS1, hk⟩) (fun _ _ _ h => h) (h M' ⟨h1⟩ h3 g w h2)
theorem AV.kp {fv : Value} {av : List Value} {R : Value → Mem → Heap → Prop} {A : Option Addr} {n c E z : Nat} {vs : List Value} (h : ∀ M', Le M M' → Kept M' A n c z vs → AV P fv av M' H R) : AV P fv av M (.row A n c E z vs :: H) R :=
  fun ro x args ts d ty pos aft gd tm K hx ha hK => AS.kp fun M' hM hk => h M' hM hk ro x args ts d ty pos aft gd tm K hx ha fun v M2 H2 hM2 hr => hK v M2 H2 (hM.out.trans hM2) hr
end
theorem sf_some {α : Type} : ∀ (l : List α), (sf (fun (_ : Bool) (_ : α) => (true, false)) false l).1 = !l.isEmpty
  | [] => rfl
  | v :: l => by simp [sf]
/-- One round of the visit of lists. -/
def lsF (ex : Int → Nat → List VT) {σ : Type} (f : σ → List VT → σ × Bool) (t : Int) (ts : List Int) (k : Nat) (s : σ) (j : Nat) : σ × Bool :=
  sf (fun s v => sf (fun s l => f s (v :: l)) s (lsV ex ts (k - j))) s (ex t j)
theorem lsF_eq (ex : Int → Nat → List VT) {σ : Type} (f : σ → List VT → σ × Bool) (t : Int) (ts : List Int) (k : Nat) (s : σ) : sf f s (lsV ex (t :: ts) k) = sf (lsF ex f t ts k) s (List.range (k + 1)) := by
  rw [lsV, sf_flat]
  congr 1
  funext s j
  rw [sf_flat, lsF]
  congr 1
  funext s v
  rw [sf_map]
theorem lsF_none (ex : Int → Nat → List VT) {σ : Type} (f : σ → List VT → σ × Bool) (t : Int) (ts : List Int) (k : Nat) (s : σ) (j : Nat) (h : lsV ex ts (k - j) = []) : lsF ex f t ts k s j = (s, true) := by
  unfold lsF
  rw [h]
  induction ex t j with
  | nil => rfl
  | cons v l ih => rw [sf]; exact ih
theorem range_drop (n j : Nat) (h : j < n) : (List.range n).drop j = j :: (List.range n).drop (j + 1) := by
  rw [List.drop_eq_getElem_cons (by simpa using h)]; simp
theorem sf_cons {σ α : Type} (f : σ → α → σ × Bool) (s : σ) (v : α) (l : List α) : sf f s (v :: l) = if (f s v).2 = true then sf f (f s v).1 l else ((f s v).1, false) := rfl
theorem consV_step {σ : Type} (f : σ → VT → σ × Bool) (ls : List Int → Nat → List (List VT)) (k : Nat) (cs : List CT) (i : Nat) (h : i < cs.length) (s : σ) :
    sf f s (consV ls k (0 + i) (cs.drop i)) = if (sf f s (conV ls k i cs[i])).2 = true then sf f (sf f s (conV ls k i cs[i])).1 (consV ls k (0 + (i + 1)) (cs.drop (i + 1))) else sf f s (conV ls k i cs[i]) := by
  rw [consV_at ls k cs 0 i h, sf_app, Nat.zero_add]
theorem conV_0 {ls : List Int → Nat → List (List VT)} {i : Nat} {c : CT} {k : Nat} (h : c.fields.length = 0) (hk : k = 0) : conV ls k i c = [⟨0, i, []⟩] := by rw [conV, if_pos h, if_pos hk]
theorem conV_1 {ls : List Int → Nat → List (List VT)} {i : Nat} {c : CT} {k : Nat} (h : c.fields.length = 0) (hk : k ≠ 0) : conV ls k i c = [] := by rw [conV, if_pos h, if_neg hk]
theorem conV_2 {ls : List Int → Nat → List (List VT)} {i : Nat} {c : CT} {k : Nat} (h : c.fields.length ≠ 0) (hk : k = 0) : conV ls k i c = [] := by rw [conV, if_neg h, if_pos hk]
theorem conV_3 {ls : List Int → Nat → List (List VT)} {i : Nat} {c : CT} {k : Nat} (h : c.fields.length ≠ 0) (hk : k ≠ 0) {σ : Type} (f : σ → VT → σ × Bool) (s : σ) : sf f s (conV ls k i c) = sf (fun s l => f s ⟨0, i, l⟩) s (ls c.fields (k - 1)) := by rw [conV, if_neg h, if_neg hk, sf_map]
end Go.Proofs.YtieaiheejhmbfaaGreatDoor.ML
/- Walks of functions of the program, in the abstract layer. No conditions. -/
namespace Go.Proofs.YtieaiheejhmbfaaGreatDoor.ML
open Go.RowKit
set_option linter.unusedVariables false
set_option linter.unusedSimpArgs false
set_option maxHeartbeats 1600000 in
set_option synthInstance.maxHeartbeats 400000 in
set_option synthInstance.maxSize 100000 in
set_option maxRecDepth 100000 in
theorem cloned_c : ∀ (z : Nat) (v : VT), SizeOf.sizeOf v < z → VBd v → ∀ (M : Mem) (H : Heap) (A : Option Addr) (c : Nat), VV M A c v →
    AC Tryz.prog 60 [.agg #[.int .i64 v.num, .int .i64 v.con, .slice A v.args.length c]] M H fun r M' H' => ∃ A' c', r = .agg #[.int .i64 v.num, .int .i64 v.con, .slice A' v.args.length c'] ∧ VV M' A' c' v ∧ H' = H
  | 0, _, hz, _ => by omega
  | z + 1, v, hz, hvb => by
    intro M H A c hv
    have hba := hvb.len
    refine AC.of (n := 26) Tryz.func60 rfl rfl ?_
    dsimp only [List.replicate, List.cons_append, List.nil_append]
    refine AW.seq ?_
    refine AW.region ?_
    refine se (S.boxM ?_); intro b1 M1 i1 j1
    refine se (S.alloc ?_); intro b2
    refine sn ?_
    refine AW.seq ?_
    refine AW.region ?_
    refine st V.faz ?_
    first | refine st V.ld ?_ | refine sq V.lo ?_
    refine st V.fa0 ?_
    first | refine st V.ld ?_ | refine sq V.lo ?_
    refine st (V.build (cells := [.int .i64 v.num, .int .i64 v.con, .slice none 0 0]) rfl) ?_
    refine se (S.alloc ?_); intro b3
    refine se (S.storeA rfl ?_)
    refine sn ?_
    refine AW.seq ?_
    refine AW.seq ?_
    refine AW.region ?_
    refine st V.faz ?_
    first | refine st V.ld ?_ | refine sq V.lo ?_
    refine st V.len ?_
    refine st V.move ?_
    refine sn ?_
    refine AW.block ?_
    refine AW.row0 26 3 ?_
    refine AW.loopL [14] (5 :: 15 :: 16 :: 17 :: 18 :: 19 :: 20 :: 21 :: 22 :: 23 :: 24 :: 25 :: []) (fun n vs M' H' => ∃ (i : Nat) (A' : Option Addr) (c' : Nat) (cs : List Value), vs = [.int .i64 (i : Int)] ∧ H' = .row A' i c' 26 3 cs :: .blk b3 (.cells #[.int .i64 v.num, .int .i64 v.con, .slice A' i c'] 26 (0, 0)) :: .blk b2 (.cells #[.int .i64 0, .int .i64 0, .slice none 0 0] 26 (0, 0)) :: H ∧ i + n = v.args.length ∧ FlV M' cs (v.args.take i)) (v.args.length) (⟨0, none, 0, [], rfl, rfl, by omega, rfl⟩) ?_
    intro n Ml Hl iL u14 hI u5 u15 u16 u17 u18 u19 u20 u21 u22 u23 u24 u25
    obtain ⟨i, A', c', cs, hv', hH, hi, hf⟩ := hI
    subst hH
    cases hv'
    refine sa ?_
    refine AW.seq ?_
    refine AW.region ?_
    refine st V.lss ?_
    refine sn ?_
    refine AW.seq ?_
    refine cond (fun h1 => ?_) (fun h1 => ?_)
    ·
      have k1 := bp h1
      refine AW.skip ?_
      refine AW.seq ?_
      refine AW.block ?_
      refine AW.seq ?_
      have z6 : i < v.args.length := by omega
      obtain ⟨ba, oa, hAa, ea⟩ := (VV.up (M' := Ml) hv).at i z6
      obtain ⟨Ax, cx, x0, x1, x2, xs⟩ := ea.get
      refine AW.region ?_
      refine st (V.ib i rfl z6 hAa) ?_
      first | refine st V.ldA ?_ | refine sq V.loA ?_
      refine se (S.alloc ?_); intro b5
      refine se (S.storeA rfl ?_)
      refine sn ?_
      refine AW.fz 0 fun Mv iv jv => ?_
      refine AW.regionP mx [0, 1, 2, 3, 4, 5, 6, 7] [[], [0], [], [2], [2, 3], [0, 1, 2, 3, 4], [0, 1, 2, 3, 4, 5], [0, 1, 2, 3, 4, 5, 6]] (by kernel_rfl) ?_
      refine DP.p rfl rfl V.faz ?_
      refine DP.lo rfl ?_
      refine DP.p rfl rfl V.ldA ?_
      refine DP.e rfl rfl (S.call ?_)
      refine (cloned_c z v.args[i] (by have := List.sizeOf_lt_of_mem (List.getElem_mem z6); cases v; simp [VT.args] at *; omega) (hvb.mem (List.getElem_mem z6)) _ _ Ax cx (VV.up (x := v.args[i]) xs)).use ?_
      rintro v' Nc G izc ⟨A9, c9, rfl, xs2, hG⟩
      obtain rfl := hG.symm
      refine ⟨(by repeat first | exact pk0 | refine pk1 rfl ?_ | refine pk2 ?_ | refine pk3 ?_), ?_⟩
      refine DP.e rfl rfl (S.lit1 (by rfl) (by decide) ?_); intro g22
      refine ⟨(by repeat first | exact pk0 | refine pk1 rfl ?_ | refine pk2 ?_ | refine pk3 ?_), ?_⟩
      refine DP.e rfl rfl (S.ap1 (by rfl) (by omega) (by omega) ?_)
      intro A2 c2
      refine ⟨(by repeat first | exact pk0 | refine pk1 rfl ?_ | refine pk2 ?_ | refine pk3 ?_), ?_⟩
      refine DP.p rfl rfl V.faz ?_
      refine DP.e rfl rfl (S.store ?_)
      refine ⟨(by repeat first | exact pk0 | refine pk1 rfl ?_ | refine pk2 ?_ | refine pk3 ?_), ?_⟩
      refine DP.nl ?_
      refine AW.region ?_
      refine st (V.add64 (by omega)) ?_
      refine st V.move ?_
      refine sn ?_
      repeat with_reducible refine inb_normal ?_
      refine thn_normal ?_
      refine rnd (n - 1) _ (by omega) (List.Sublist.refl _) ⟨i + 1, A2, c2, _, by simp, rfl, by omega, ?_⟩
      rw [take_succ _ _ z6]; exact (hf.up (M' := Nc)).app (FlV.one xs2)
    ·
      have k1 := bp h1
      refine AW.exit ?_
      repeat with_reducible refine thn_exit ?_
      refine inb_exit ?_
      refine AW.seq ?_
      have e9 : v.args.take i = v.args := List.take_of_length_le (by omega)
      rw [e9] at hf
      refine AW.kp 0 fun Mk ik hk => ?_
      refine AW.region ?_
      first | refine st V.ldA ?_ | refine sq V.loA ?_
      refine se (S.storeA rfl ?_)
      refine sn ?_
      refine AW.ret ?_
      repeat with_reducible first | refine thn_ret ?_ | refine inb_ret ?_
      refine fin (Res.ic rfl) ?_
      obtain ⟨hl, hr⟩ := hk.vals hf.up (by omega)
      subst hl
      refine ⟨_, (by repeat first | exact List.Sublist.refl _ | apply List.Sublist.cons), A', c', rfl, hr, rfl⟩
set_option maxHeartbeats 1600000 in
set_option synthInstance.maxHeartbeats 400000 in
set_option synthInstance.maxSize 100000 in
set_option maxRecDepth 100000 in
theorem exa1_c {σ : Type} (J : Bool → σ → Heap) (f : σ → VT → σ × Bool) (fy : Value) (M : Mem) (b7 b9 : Nat) (con : Int) (h7 : Mb M b7 [fy]) (h9 : Mb M b9 [.int .i64 con]) (hy : CbV Tryz.prog M fy J f) (s : σ) (A : Option Addr) (c : Nat) (l : List VT) (hl : RdS 3 (RdV M) A c l) (hb : l.length ≤ 1000000) (hv : ∀ x ∈ l, VBd x) :
    AC Tryz.prog 86 [.slice A l.length c, .pointer (some ⟨b7, 0, none⟩), .pointer (some ⟨b9, 0, none⟩)] M (J true s) fun r _ H' => r = .bool (f s ⟨0, con, l⟩).2 ∧ H' = J (f s ⟨0, con, l⟩).2 (f s ⟨0, con, l⟩).1 := by
  refine AC.of (n := 7) Tryz.func86 rfl rfl ?_
  dsimp only [List.replicate, List.cons_append, List.nil_append]
  refine AW.seq ?_
  refine AW.region ?_
  refine st V.assign ?_
  refine sn ?_
  refine AW.seq ?_
  refine AW.region ?_
  first | refine st V.ld ?_ | refine sq V.lo ?_
  first | refine st V.ld ?_ | refine sq V.lo ?_
  refine st V.move ?_
  refine st (V.build (cells := [.int .i64 0, .int .i64 con, .slice A l.length c]) rfl) ?_
  refine se (S.callV ?_)
  refine (hy _ inferInstance s ⟨0, con, l⟩ A c (.mk hb hv) hl).use ?_
  rintro v N G iz ⟨rfl, hG⟩
  subst hG
  refine st V.assign ?_
  refine sn ?_
  refine AW.ret ?_
  repeat with_reducible first | refine thn_ret ?_ | refine inb_ret ?_
  refine fin (Res.i1 rfl) ?_
  exact ⟨_, (by repeat first | exact List.Sublist.refl _ | apply List.Sublist.cons), rfl, rfl⟩
set_option maxHeartbeats 1600000 in
set_option synthInstance.maxHeartbeats 400000 in
set_option synthInstance.maxSize 100000 in
set_option maxRecDepth 100000 in
theorem some_c (M : Mem) (H : Heap) (b : Nat) (x : Bool) (A : Option Addr) (n c : Nat) :
    AC Tryz.prog 109 [.slice A n c, .pointer (some ⟨b, 0, none⟩)] M (.blk b (.cells #[.bool x] 4 (0, 0)) :: H) fun r _ H' => r = .bool false ∧ H' = .blk b (.cells #[.bool true] 4 (0, 0)) :: H := by
  refine AC.of (n := 2) Tryz.func109 rfl rfl ?_
  dsimp only [List.replicate, List.cons_append, List.nil_append]
  refine AW.seq ?_
  refine AW.region ?_
  refine st V.assign ?_
  refine sn ?_
  refine AW.seq ?_
  refine AW.region ?_
  refine se (S.store ?_)
  refine sn ?_
  refine AW.seq ?_
  refine AW.region ?_
  refine st V.assign ?_
  refine sn ?_
  refine AW.ret ?_
  repeat with_reducible first | refine thn_ret ?_ | refine inb_ret ?_
  refine fin (Res.i1 rfl) ?_
  exact ⟨_, (by repeat first | exact List.Sublist.refl _ | apply List.Sublist.cons), rfl, rfl⟩
set_option maxHeartbeats 1600000 in
set_option synthInstance.maxHeartbeats 400000 in
set_option synthInstance.maxSize 100000 in
set_option maxRecDepth 100000 in
theorem lis3_c {σ : Type} (J : Bool → σ → Heap) (m : Nat) (hm : m ≤ 100000) (f : σ → List VT → σ × Bool) (fy : Value) (M : Mem) (b7 b6 : Nat) (v : VT) (Av : Option Addr) (cv : Nat) (h7 : Mb M b7 [fy]) (h6 : Mb M b6 [.int .i64 v.num, .int .i64 v.con, .slice Av v.args.length cv]) (hv : VV M Av cv v) (hvb : VBd v) (hy : CbL Tryz.prog M fy (m + 1) J f) (s : σ) (A : Option Addr) (c : Nat) (l : List VT) (hlm : l.length = m) (hl : RdS 3 (RdV M) A c l) (h0 : l = [] → A = none ∧ c = 0) (hlb : ∀ x ∈ l, VBd x) :
    AC Tryz.prog 111 [.slice A l.length c, .pointer (some ⟨b7, 0, none⟩), .pointer (some ⟨b6, 0, none⟩)] M (J true s) fun r _ H' => r = .bool (f s (v :: l)).2 ∧ H' = J (f s (v :: l)).2 (f s (v :: l)).1 := by
  refine AC.of (n := 8) Tryz.func111 rfl rfl ?_
  dsimp only [List.replicate, List.cons_append, List.nil_append]
  refine AW.seq ?_
  refine AW.region ?_
  refine st V.assign ?_
  refine sn ?_
  refine AW.seq ?_
  refine AW.regionD mx true [0, 1, 3, 2, 4, 5, 6] [[], [], [1], [], [1, 2, 3], [0, 1, 2, 3, 4], [0, 1, 2, 3, 4, 5]] (by kernel_rfl) ?_
  refine D.p rfl rfl V.ld ?_
  refine D.p rfl rfl V.ldA ?_
  refine D.p rfl rfl V.move ?_
  refine D.e rfl rfl (S.lit1 (by rfl) (by decide) ?_); intro g7
  refine D.e rfl rfl (S.apV rfl (by rfl) hl h0 (by omega) (by omega) ?_)
  intro A2 c2 vs2 hf2
  refine D.e rfl rfl (S.callV ?_)
  refine AV.kp fun Mk ik hk => ?_
  obtain ⟨_, hr⟩ := hk.vals (((FlV.one (M := Mk) (VV.up hv)).app (hf2.up (M' := Mk)))) (by simp; omega)
  refine (hy _ inferInstance s (v :: l) A2 c2 (by simp [hlm]) (by intro x hx; rcases List.mem_cons.1 hx with rfl | hx; exact hvb; exact hlb x hx) hr (fun e => by cases e)).use ?_
  rintro v N G iz ⟨rfl, hG⟩
  subst hG
  refine D.p rfl rfl V.assign ?_
  refine D.nl ?_
  refine AW.ret ?_
  repeat with_reducible first | refine thn_ret ?_ | refine inb_ret ?_
  refine fin (Res.i1 rfl) ?_
  exact ⟨_, (by repeat first | exact List.Sublist.refl _ | apply List.Sublist.cons), rfl, rfl⟩
set_option maxHeartbeats 1600000 in
set_option synthInstance.maxHeartbeats 400000 in
set_option synthInstance.maxSize 100000 in
set_option maxRecDepth 100000 in
theorem lis2_c {σ : Type} (d : List DT) (ex : Int → Nat → List VT) (J : Bool → σ → Heap) (f : σ → List VT → σ × Bool) (fy : Value) (M : Mem) (b1 b2 b3 b4 b5 : Nat) (Ad : Option Addr) (cd : Nat) (A : Option Addr) (c : Nat) (t0 : Int) (ts : List Int) (k j : Nat) (hjk : j ≤ k) (hkb : k ≤ 1000000) (htb : ts.length ≤ 100000)
    (h1 : Mb M b1 [.slice Ad d.length cd]) (h2 : Mb M b2 [.slice A (ts.length + 1) c]) (h3 : Mb M b3 [.int .i64 k]) (h4 : Mb M b4 [.int .i64 j]) (h5 : Mb M b5 [fy]) (hd : RdS 2 (RdD M) Ad cd d) (hA : RdS 1 (RdI M) A c (t0 :: ts)) (hy : CbL Tryz.prog M fy (ts.length + 1) J f)
    (hL : ∀ (g : σ → List VT → σ × Bool) (fz : Value) (_ : Fv fz) (s : σ) (M' : Mem) (_ : LeT M M') (A' : Option Addr) (c' : Nat), RdS 1 (RdI M') A' c' ts → CbL Tryz.prog M' fz ts.length J g → AC Tryz.prog 85 [.slice Ad d.length cd, .slice A' ts.length c', .int .i64 ((k - j : Nat) : Int), fz] M' (J true s) fun r _ H' => r = .bool (sf g s (lsV ex ts (k - j))).2 ∧ H' = J (sf g s (lsV ex ts (k - j))).2 (sf g s (lsV ex ts (k - j))).1)
    (s : σ) (v : VT) (Av : Option Addr) (cv : Nat) (hv : VV M Av cv v) (hvb : VBd v) :
    AC Tryz.prog 110 [.agg #[.int .i64 v.num, .int .i64 v.con, .slice Av v.args.length cv], .pointer (some ⟨b1, 0, none⟩), .pointer (some ⟨b2, 0, none⟩), .pointer (some ⟨b3, 0, none⟩), .pointer (some ⟨b4, 0, none⟩), .pointer (some ⟨b5, 0, none⟩)] M (J true s) fun r _ H' => r = .bool (sf (fun s l => f s (v :: l)) s (lsV ex ts (k - j))).2 ∧ H' = J (sf (fun s l => f s (v :: l)) s (lsV ex ts (k - j))).2 (sf (fun s l => f s (v :: l)) s (lsV ex ts (k - j))).1 := by
  refine AC.of (n := 10) Tryz.func110 rfl rfl ?_
  dsimp only [List.replicate, List.cons_append, List.nil_append]
  refine AW.seq ?_
  refine AW.region ?_
  refine se (S.boxM ?_); intro b6 M6 i6 j6
  refine st V.assign ?_
  refine sn ?_
  refine AW.seq ?_
  refine AW.regionD mx true [0, 1, 2, 3, 4, 5, 6, 7, 8] [[], [], [1], [], [], [3, 4], [], [0, 1, 2, 3, 4, 5, 6], [0, 1, 2, 3, 4, 5, 6, 7]] (by kernel_rfl) ?_
  refine D.p rfl rfl V.ld ?_
  refine D.p rfl rfl V.ld ?_
  refine D.p rfl rfl (V.slL (by omega) (by omega)) ?_
  refine D.p rfl rfl V.ld ?_
  refine D.p rfl rfl V.ld ?_
  refine D.p rfl rfl (V.sub64 (by omega)) ?_
  refine D.p rfl rfl V.fn ?_
  have hr := hA.drop 1 (by simp)
  have e1 : (((k : Int) - (j : Int))) = ((k - j : Nat) : Int) := by omega
  refine D.e rfl rfl (S.call ?_)
  rw [e1]
  refine (hL (fun s l => f s (v :: l)) (.func (.func 111) #[] #[.pointer (some ⟨b5, 0, none⟩), .pointer (some ⟨b6, 0, none⟩)]) inferInstance s _ inferInstance _ _ (RdS.imp hr fun b o x h => h.up) (fun M2 q s' l' A' c' hl' hb' hr' h0' => AV.func (fst := #[]) (cap := #[_, _]) (lis3_c J ts.length (by omega) f fy M2 b5 b6 v Av cv (Mb.up (h := ⟨(inferInstance : LeT M M6).out.trans q.out⟩) h5) (Mb.up (h := q) j6) (VV.up (hm := ⟨(inferInstance : LeT M M6).out.trans q.out⟩) hv) hvb (CbL.up (q := ⟨(inferInstance : LeT M M6).out.trans q.out⟩) hy) s' A' c' l' hl' hr' h0' hb'))).use ?_
  rintro v N G iz ⟨rfl, hG⟩
  subst hG
  refine D.p rfl rfl V.assign ?_
  refine D.nl ?_
  refine AW.ret ?_
  repeat with_reducible first | refine thn_ret ?_ | refine inb_ret ?_
  refine fin (Res.i1 rfl) ?_
  exact ⟨_, (by repeat first | exact List.Sublist.refl _ | apply List.Sublist.cons), rfl, rfl⟩
set_option maxHeartbeats 1600000 in
set_option synthInstance.maxHeartbeats 400000 in
set_option synthInstance.maxSize 100000 in
set_option maxRecDepth 100000 in
theorem lists85_c (d : List DT) (n : Nat) (hn6 : n ≤ 1000000) (hex : ∀ (σ : Type) (J : Bool → σ → Heap) (f : σ → VT → σ × Bool) (fy : Value) (_ : Fv fy) (t : Int) (k : Nat), k < n → (0 ≤ t ∧ t ≤ d.length) → ∀ (s : σ) (M : Mem) (Ad : Option Addr) (cd : Nat), RdS 2 (RdD M) Ad cd d → CbV Tryz.prog M fy J f → AC Tryz.prog 59 [.slice Ad d.length cd, .int .i64 t, .int .i64 k, fy] M (J true s) fun r _ H' => r = .bool (sf f s (exA d n t k)).2 ∧ H' = J (sf f s (exA d n t k)).2 (sf f s (exA d n t k)).1) : ∀ (z : Nat) (ts : List Int), ts.length < z → (∀ x ∈ ts, 0 ≤ x ∧ x ≤ d.length) → ts.length ≤ 100000 → ∀ (k : Nat), k < n → ∀ (σ : Type) (J : Bool → σ → Heap) (f : σ → List VT → σ × Bool) (fy : Value) (_ : Fv fy) (s : σ) (M : Mem) (Ad : Option Addr) (cd : Nat) (A : Option Addr) (c : Nat), RdS 2 (RdD M) Ad cd d → RdS 1 (RdI M) A c ts → CbL Tryz.prog M fy ts.length J f →
    AC Tryz.prog 85 [.slice Ad d.length cd, .slice A ts.length c, .int .i64 k, fy] M (J true s) fun r _ H' => r = .bool (sf f s (lsV (exA d n) ts k)).2 ∧ H' = J (sf f s (lsV (exA d n) ts k)).2 (sf f s (lsV (exA d n) ts k)).1
  | 0, ts, hz => by omega
  | z + 1, ts, hz => by
    intro hT htb k hk σ J f fy hfv s M Ad cd A c hd hA hy
    refine AC.of (n := 42) Tryz.func85 rfl rfl ?_
    dsimp only [List.replicate, List.cons_append, List.nil_append]
    refine AW.seq ?_
    refine AW.region ?_
    refine se (S.boxM ?_); intro b4 M4 i4 j4
    refine se (S.boxM ?_); intro b5 M5 i5 j5
    refine se (S.boxM ?_); intro b6 M6 i6 j6
    refine se (S.boxM ?_); intro b7 M7 i7 j7
    refine st V.assign ?_
    refine sn ?_
    refine AW.seq ?_
    refine AW.seq ?_
    refine AW.region ?_
    first | refine st V.ld ?_ | refine sq V.lo ?_
    refine st V.len ?_
    refine st V.eql ?_
    refine sn ?_
    refine cond (fun h1 => ?_) (fun h1 => ?_)
    ·
      have k1 := bp h1
      obtain rfl : ts = [] := List.eq_nil_of_length_eq_zero (by omega)
      refine AW.seq ?_
      refine AW.region ?_
      first | refine st V.ld ?_ | refine sq V.lo ?_
      refine st V.gtr ?_
      refine st V.move ?_
      refine onoff true rfl rfl (fun h2 => ?_) (fun h2 => ?_)
      ·
        have k2 := bp h2
        first | refine st V.ld ?_ | refine sq V.lo ?_
        refine on rfl h2 ?_
        refine se (S.callV ?_)
        refine (hy _ inferInstance s [] none 0 (by simp) (by simp) RdS.nil (fun _ => ⟨rfl, rfl⟩)).use ?_
        rintro v N G iz ⟨rfl, hG⟩
        subst hG
        refine st (V.pF h2) ?_
        refine st V.assign ?_
        refine sn ?_
        refine AW.ret ?_
        repeat with_reducible first | refine thn_ret ?_ | refine inb_ret ?_
        refine fin (Res.i1 rfl) ?_
        have e0 : lsV (exA d n) [] k = [[]] := by rw [lsV, if_pos (by omega)]
        rw [e0]
        refine ⟨_, List.Sublist.refl _, ?_, ?_⟩ <;> (simp only [sf]; split <;> simp_all)
      ·
        have k2 := bp h2
        refine off rfl h2 ?_
        refine st (V.pT h2) ?_
        refine st V.assign ?_
        refine sn ?_
        refine AW.ret ?_
        repeat with_reducible first | refine thn_ret ?_ | refine inb_ret ?_
        refine fin (Res.i1 rfl) ?_
        have e0 : lsV (exA d n) [] k = [] := by rw [lsV, if_neg (by omega)]
        rw [e0]
        exact ⟨_, (by repeat first | exact List.Sublist.refl _ | apply List.Sublist.cons), rfl, rfl⟩
    ·
      have k1 := bp h1
      obtain ⟨t0, ts, rfl⟩ : ∃ t0 ts', ts = t0 :: ts' := by cases ts with | nil => simp at k1 | cons a l => exact ⟨a, l, rfl⟩
      simp only [List.length_cons] at hz htb hy ⊢
      refine AW.skip ?_
      refine AW.seq ?_
      refine AW.seq ?_
      refine AW.region ?_
      first | refine st V.ld ?_ | refine sq V.lo ?_
      refine st (V.add64 (by omega)) ?_
      refine st V.move ?_
      refine sn ?_
      refine AW.block ?_
      refine AW.loopL [23] (8 :: 9 :: 10 :: 11 :: 24 :: 25 :: 26 :: 27 :: 28 :: 29 :: 30 :: 31 :: 32 :: 33 :: 34 :: 35 :: 36 :: 37 :: 38 :: 39 :: 40 :: 41 :: 42 :: 43 :: 44 :: 45 :: []) (fun m vs M' H' => ∃ (j : Nat) (s1 : σ), vs = [.int .i64 (j : Int)] ∧ H' = J true s1 ∧ j + m = k + 1 ∧ sf f s (lsV (exA d n) (t0 :: ts) k) = sf (lsF (exA d n) f t0 ts k) s1 ((List.range (k + 1)).drop j)) (k + 1) (⟨0, s, rfl, rfl, by omega, by rw [lsF_eq]; rfl⟩) ?_
      intro m Ml Hl iL u23 hI u8 u9 u10 u11 u24 u25 u26 u27 u28 u29 u30 u31 u32 u33 u34 u35 u36 u37 u38 u39 u40 u41 u42 u43 u44 u45
      obtain ⟨j, s1, hv, hH, hj, hw⟩ := hI
      subst hH
      cases hv
      refine sa ?_
      refine AW.seq ?_
      skip
      refine AW.region ?_
      refine st V.lss ?_
      refine sn ?_
      refine AW.seq ?_
      refine cond (fun h3 => ?_) (fun h3 => ?_)
      ·
        have k3 := bp h3
        refine AW.skip ?_
        refine AW.seq ?_
        refine AW.block ?_
        refine AW.seq ?_
        refine AW.region ?_
        refine st V.move ?_
        refine se (S.alloc ?_); intro b9
        refine se (S.store ?_)
        refine sn ?_
        refine AW.seq ?_
        refine AW.fz 0 fun Mj ij jj => ?_
        refine AW.region ?_
        refine se (S.alloc ?_); intro b10
        refine se (S.store ?_)
        refine sn ?_
        refine AW.seq ?_
        have hr := hA.drop 1 (by simp)
        refine AW.regionD mx true [0, 1, 2, 3, 4, 5, 6, 7] [[], [], [1], [], [], [3, 4], [], [0, 1, 2, 3, 4, 5, 6]] (by kernel_rfl) ?_
        refine D.p rfl rfl V.ld ?_
        refine D.p rfl rfl V.ld ?_
        refine D.p rfl rfl (V.slL (by omega) (by omega)) ?_
        refine D.p rfl rfl V.ld ?_
        refine D.p rfl rfl V.ld ?_
        refine D.p rfl rfl (V.sub64 (by omega)) ?_
        refine D.p rfl rfl V.fn ?_
        have e1 : ((k : Int) - (j : Int)) = ((k - j : Nat) : Int) := by omega
        refine D.e rfl rfl (S.call ?_)
        rw [e1]
        refine (lists85_c d n hn6 hex z ts (by omega) (fun x hx => hT x (List.mem_cons_of_mem _ hx)) (by omega) (k - j) (by omega) Bool (fun _ b => .blk b10 (.cells #[.bool b] 4 (0, 0)) :: J true s1) (fun _ _ => (true, false)) (.func (.func 109) #[] #[.pointer (some ⟨b10, 0, none⟩)]) inferInstance false _ Ad cd _ _ hd.upD (RdS.upI hr) (fun M2 q s' l' A' c' _ _ _ _ => AV.func (fst := #[]) (cap := #[_]) (some_c M2 _ b10 s' A' _ c'))).use ?_
        rintro v N G iz ⟨rfl, hG⟩
        rw [sf_some] at hG
        subst hG
        refine D.nl ?_
        refine AW.seq ?_
        refine AW.seq ?_
        refine AW.region ?_
        first | refine st V.ld ?_ | refine sq V.lo ?_
        refine st V.not ?_
        refine sn ?_
        refine cond (fun h4 => ?_) (fun h4 => ?_)
        ·
          have k4 := bp h4
          refine AW.exit ?_
          repeat with_reducible refine thn_exit ?_
          refine inb_exit ?_
          refine AW.region ?_
          refine st (V.add64 (by omega)) ?_
          refine st V.move ?_
          refine sn ?_
          repeat with_reducible refine inb_normal ?_
          refine thn_normal ?_
          refine rnd (m - 1) (J true s1) (by omega) (List.sublist_cons_self _ _) ⟨j + 1, s1, by simp, rfl, by omega, ?_⟩
          rw [hw, range_drop _ _ (by omega), sf_cons, lsF_none _ _ _ _ _ _ _ (by simpa using h4)]; simp
        ·
          have k4 := bp h4
          refine AW.skip ?_
          refine AW.seq ?_
          refine AW.drop (H' := J true s1) (List.sublist_cons_self _ _) ?_
          obtain ⟨bx, ox, hAx, ex⟩ := (hA.upI (M' := N)).at 0 (by simp)
          have ex : Mk N bx (ox + 0 * 1) (.int .i64 t0) := ex
          refine AW.regionD mx true [0, 1, 2, 3, 4, 5, 6, 7] [[], [], [1], [1, 2], [], [], [0, 1, 2, 3, 4, 5], [0, 1, 2, 3, 4, 5, 6]] (by kernel_rfl) ?_
          refine D.p rfl rfl V.ld ?_
          refine D.p rfl rfl V.ld ?_
          refine D.p rfl rfl (V.ib 0 rfl (by omega) hAx) ?_
          refine D.p rfl rfl V.ld ?_
          refine D.p rfl rfl V.ld ?_
          refine D.p rfl rfl V.fn ?_
          refine D.e rfl rfl (S.call ?_)
          have LN : LeT M N := inferInstance
          refine (hex σ J (fun s v => sf (fun s l => f s (v :: l)) s (lsV (exA d n) ts (k - j))) (.func (.func 110) #[] #[.pointer (some ⟨b4, 0, none⟩), .pointer (some ⟨b5, 0, none⟩), .pointer (some ⟨b6, 0, none⟩), .pointer (some ⟨b9, 0, none⟩), .pointer (some ⟨b7, 0, none⟩)]) inferInstance t0 j (by omega) (hT t0 (List.mem_cons_self ..)) s1 _ Ad cd hd.upD (fun M2 q s' v A' c' hvb hvv => AV.func (fst := #[]) (cap := #[_, _, _, _, _]) (lis2_c d (exA d n) J f fy M2 b4 b5 b6 b9 b7 Ad cd A c t0 ts k j (by omega) (by omega) (by omega) (Mb.up (h := LeT.tr (inferInstance : LeT M4 N) q) j4) (Mb.up (h := LeT.tr (inferInstance : LeT M5 N) q) j5) (Mb.up (h := LeT.tr (inferInstance : LeT M6 N) q) j6) (Mb.up (h := LeT.tr (inferInstance : LeT Mj N) q) jj) (Mb.up (h := LeT.tr (inferInstance : LeT M7 N) q) j7) (hd.upD (h := LeT.tr LN q)) (hA.upI (h := LeT.tr LN q)) (CbL.up (q := LeT.tr LN q) hy) (fun g fz _ s2 M3 q3 A3 c3 hr3 hy3 => lists85_c d n hn6 hex z ts (by omega) (fun x hx => hT x (List.mem_cons_of_mem _ hx)) (by omega) (k - j) (by omega) σ J g fz inferInstance s2 M3 Ad cd A3 c3 (hd.upD (h := LeT.tr LN (LeT.tr q q3))) hr3 hy3) s' v A' c' hvv hvb))).use ?_
          rintro v2 N2 G2 iz2 ⟨rfl, hG⟩
          subst hG
          refine D.p rfl rfl V.assign ?_
          refine D.nl ?_
          refine AW.seq ?_
          refine AW.region ?_
          refine st V.move ?_
          refine st V.not ?_
          refine sn ?_
          refine cond (fun h5 => ?_) (fun h5 => ?_)
          ·
            have k5 := bp h5
            refine AW.seq ?_
            refine AW.region ?_
            refine st V.assign ?_
            refine sn ?_
            refine AW.ret ?_
            repeat with_reducible first | refine thn_ret ?_ | refine inb_ret ?_
            refine fin (Res.i1 rfl) ?_
            have e5 : (lsF (exA d n) f t0 ts k s1 j).2 = false := by simpa [lsF] using h5
            have e6 : sf f s (lsV (exA d n) (t0 :: ts) k) = ((lsF (exA d n) f t0 ts k s1 j).1, false) := by rw [hw, range_drop _ _ (by omega), sf_cons, if_neg (by rw [e5]; decide)]
            rw [e6]
            exact ⟨_, (by repeat first | exact List.Sublist.refl _ | apply List.Sublist.cons), rfl, by rw [← e5]; rfl⟩
          ·
            have k5 := bp h5
            refine AW.skip ?_
            refine AW.region ?_
            refine st (V.add64 (by omega)) ?_
            refine st V.move ?_
            refine sn ?_
            repeat with_reducible refine inb_normal ?_
            refine thn_normal ?_
            have h6 : (sf (fun s v => sf (fun s l => f s (v :: l)) s (lsV (exA d n) ts (k - j))) s1 (exA d n t0 j)).2 = true := by simpa using h5
            refine rnd (m - 1) _ (by omega) (List.Sublist.refl _) ⟨j + 1, _, by simp, by rw [h6], by omega, ?_⟩
            rw [hw, range_drop _ _ (by omega), sf_cons, if_pos (by simpa [lsF] using h5)]; rfl
      ·
        have k3 := bp h3
        refine AW.exit ?_
        repeat with_reducible refine thn_exit ?_
        refine inb_exit ?_
        refine AW.seq ?_
        refine AW.region ?_
        refine st V.assign ?_
        refine sn ?_
        refine AW.ret ?_
        repeat with_reducible first | refine thn_ret ?_ | refine inb_ret ?_
        refine fin (Res.i1 rfl) ?_
        have e6 : sf f s (lsV (exA d n) (t0 :: ts) k) = (s1, true) := by rw [hw, List.drop_eq_nil_of_le (by simp; omega)]; rfl
        rw [e6]
        exact ⟨_, (by repeat first | exact List.Sublist.refl _ | apply List.Sublist.cons), rfl, rfl⟩
end Go.Proofs.YtieaiheejhmbfaaGreatDoor.ML
/- The plain laws of the limit of cells: reaching is closed and least. No conditions. -/
namespace Go.Proofs.YtieaiheejhmbfaaGreatDoor.ML
open Go.RowKit
set_option linter.unusedVariables false
set_option linter.unusedSimpArgs false
inductive Rch (d : List DT) : Int → Int → Prop
  | refl (t : Int) : Rch d t t
  | step {t f x : Int} (hf : f ∈ fieldsF d t) (h : Rch d f x) : Rch d t x
theorem visF_rch (d : List DT) : ∀ (s : Nat) (t : Int) (l : List Int) (x : Int), x ∈ visF d s t l → x ∈ l ∨ Rch d t x
  | 0, t, l, x, h => .inl h
  | s + 1, t, l, x, h => by
    unfold visF at h
    split at h
    · have key : ∀ (fs : List Int) (l : List Int), (∀ f ∈ fs, f ∈ fieldsF d t) → x ∈ fs.foldl (fun l f => visF d s f l) l → x ∈ l ∨ Rch d t x := by
        intro fs
        induction fs with
        | nil => intro l _ h; exact .inl h
        | cons f fs ih =>
          intro l hf h
          rcases ih _ (fun g hg => hf g (List.mem_cons_of_mem _ hg)) h with h | h
          · rcases visF_rch d s f l x h with h | h
            · exact .inl h
            · exact .inr (.step (hf f (List.mem_cons_self ..)) h)
          · exact .inr h
      rcases key _ _ (fun f hf => hf) h with h | h
      · rcases List.mem_append.1 h with h | h
        · exact .inl h
        · simp at h; subst h; exact .inr (.refl _)
      · exact .inr h
    · exact .inl h
theorem visF_sub (d : List DT) : ∀ (s : Nat) (t : Int) (l : List Int) (x : Int), x ∈ l → x ∈ visF d s t l
  | 0, t, l, x, h => h
  | s + 1, t, l, x, h => by
    unfold visF
    split
    · have key : ∀ (fs : List Int) (l : List Int), x ∈ l → x ∈ fs.foldl (fun l f => visF d s f l) l := by
        intro fs
        induction fs with
        | nil => intro l h; exact h
        | cons f fs ih => intro l h; exact ih _ (visF_sub d s f l x h)
      exact key _ _ (List.mem_append_left _ h)
    · exact h
/-- What is new has its fields in it. -/
theorem visF_closed (d : List DT) (hF : ∀ t f, f ∈ fieldsF d t → 0 ≤ f ∧ f ≤ d.length) : ∀ (s : Nat) (t : Int) (l : List Int), OkL d l → 0 ≤ t ∧ t ≤ d.length → d.length + 1 < s + l.length →
    t ∈ visF d s t l ∧ ∀ x ∈ visF d s t l, x ∉ l → ∀ f ∈ fieldsF d x, f ∈ visF d s t l
  | 0, t, l, hok, ht, hs => by have := hok.len; omega
  | s + 1, t, l, hok, ht, hs => by
    by_cases hin : t ∈ l
    · rw [visF_in hin]; exact ⟨hin, fun x hx hn => absurd hx hn⟩
    rw [visF_new ht hin]
    have key : ∀ (fs : List Int) (l : List Int), OkL d l → (∀ f ∈ fs, 0 ≤ f ∧ f ≤ d.length) → d.length + 1 < s + l.length →
        (∀ f ∈ fs, f ∈ fs.foldl (fun l f => visF d s f l) l) ∧ (∀ x ∈ l, x ∈ fs.foldl (fun l f => visF d s f l) l) ∧ ∀ x ∈ fs.foldl (fun l f => visF d s f l) l, x ∉ l → ∀ f ∈ fieldsF d x, f ∈ fs.foldl (fun l f => visF d s f l) l := by
      intro fs
      induction fs with
      | nil => intro l _ _ _; exact ⟨by simp, fun x h => h, fun x hx hn => absurd hx hn⟩
      | cons f fs ih =>
        intro l hok hf hs
        have h1 := visF_closed d hF s f l hok (hf f (List.mem_cons_self ..)) hs
        have h2 := visF_ok d s f l hok
        obtain ⟨i1, i2, i3⟩ := ih (visF d s f l) h2.1 (fun g hg => hf g (List.mem_cons_of_mem _ hg)) (by omega)
        refine ⟨fun g hg => ?_, fun x hx => i2 x (visF_sub d s f l x hx), fun x hx hn g hg => ?_⟩
        · rcases List.mem_cons.1 hg with rfl | hg
          · exact i2 _ h1.1
          · exact i1 g hg
        · by_cases hx1 : x ∈ visF d s f l
          · exact i2 _ (h1.2 x hx1 hn g hg)
          · exact i3 x hx hx1 g hg
    have hok2 : OkL d (l ++ [t]) := ⟨nodup_push hok.1 hin, fun x hx => by
      rcases List.mem_append.1 hx with hx | hx
      · exact hok.2 x hx
      · simp at hx; subst hx; exact ht⟩
    obtain ⟨k1, k2, k3⟩ := key (fieldsF d t) (l ++ [t]) hok2 (fun f hf => hF t f hf) (by simp; omega)
    refine ⟨k2 t (by simp), fun x hx hn f hf => ?_⟩
    by_cases e : x = t
    · subst e; exact k1 f hf
    · exact k3 x hx (by simp [hn, e]) f hf
theorem reach_closed {d : List DT} (hF : ∀ t f, f ∈ fieldsF d t → 0 ≤ f ∧ f ≤ d.length) {t : Int} (ht : 0 ≤ t ∧ t ≤ d.length) : t ∈ reachF d t ∧ ∀ x ∈ reachF d t, ∀ f ∈ fieldsF d x, f ∈ reachF d t := by
  have := visF_closed d hF (d.length + 2) t [] ⟨by simp, by simp⟩ ht (by simp)
  exact ⟨this.1, fun x hx => this.2 x hx (by simp)⟩
theorem reach_rch {d : List DT} {t x : Int} (h : x ∈ reachF d t) : Rch d t x := by
  rcases visF_rch d _ t [] x h with h | h
  · simp at h
  · exact h
theorem rch_reach {d : List DT} (hF : ∀ t f, f ∈ fieldsF d t → 0 ≤ f ∧ f ≤ d.length) {t : Int} (ht : 0 ≤ t ∧ t ≤ d.length) {y x : Int} (h : Rch d y x) (hy : y ∈ reachF d t) : x ∈ reachF d t := by
  induction h with
  | refl _ => exact hy
  | step hf _ ih => exact ih ((reach_closed hF ht).2 _ hy _ hf)
theorem reach_sub {d : List DT} (hF : ∀ t f, f ∈ fieldsF d t → 0 ≤ f ∧ f ≤ d.length) {t f : Int} (ht : 0 ≤ t ∧ t ≤ d.length) (hf : f ∈ fieldsF d t) {x : Int} (hx : x ∈ reachF d f) : x ∈ reachF d t :=
  rch_reach hF ht (reach_rch hx) ((reach_closed hF ht).2 t (reach_closed hF ht).1 f hf)
theorem reach_ok (d : List DT) (t : Int) : OkL d (reachF d t) := (visF_ok d (d.length + 2) t [] ⟨by simp, by simp⟩).1
theorem nodup_sub_len : ∀ (l l' : List Int), l.Nodup → (∀ x ∈ l, x ∈ l') → l.length ≤ l'.length
  | [], _, _, _ => Nat.zero_le _
  | x :: l, l', hn, h => by
    rw [List.nodup_cons] at hn
    have hx := h x (List.mem_cons_self ..)
    have := nodup_sub_len l (l'.erase x) hn.2 fun y hy => by
      have hne : y ≠ x := fun e => hn.1 (e ▸ hy)
      exact (List.mem_erase_of_ne hne).2 (h y (List.mem_cons_of_mem _ hy))
    rw [List.length_erase_of_mem hx] at this
    have hp := List.length_pos_of_mem hx
    simp only [List.length_cons]
    omega
/-- The fields of what is not recursive reach fewer types. -/
theorem reach_less {d : List DT} (hF : ∀ t f, f ∈ fieldsF d t → 0 ≤ f ∧ f ≤ d.length) {t f : Int} (ht : 0 ≤ t ∧ t ≤ d.length) (hf : f ∈ fieldsF d t) (hr : recF d t = false) : (reachF d f).length < (reachF d t).length := by
  have hn : t ∉ reachF d f := fun h => by
    have : recF d t = true := by
      unfold recF
      obtain ⟨c, hc, hfc⟩ := List.mem_flatMap.1 hf
      rw [List.any_eq_true]
      exact ⟨c, hc, by rw [List.any_eq_true]; exact ⟨f, hfc, by rw [List.any_eq_true]; exact ⟨t, h, by simp⟩⟩⟩
    rw [hr] at this; cases this
  have := nodup_sub_len (t :: reachF d f) (reachF d t) (List.nodup_cons.2 ⟨hn, (reach_ok d f).1⟩) fun x hx => by
    rcases List.mem_cons.1 hx with rfl | hx
    · exact (reach_closed hF ht).1
    · exact reach_sub hF ht hf hx
  simp at this
  omega
theorem typed_fields {d : List DT} (hT : TypedP d) (t f : Int) (h : f ∈ fieldsF d t) : 0 ≤ f ∧ f ≤ d.length := by
  by_cases hh : t < 1 ∨ t > d.length
  · rw [fieldsF, consF, if_pos hh] at h; simp at h
  · obtain ⟨p, rfl⟩ : ∃ p : Nat, t = (p : Int) + 1 := ⟨(t - 1).toNat, by omega⟩
    have hp0 : p < d.length := by omega
    rw [fields_at d p hp0] at h
    obtain ⟨c, hc, hf⟩ := List.mem_flatMap.1 h
    obtain ⟨j, hj, rfl⟩ := List.getElem_of_mem hc
    exact hT p hp0 j hj f hf
/-! ### The limit -/
def stepN (most : Int) (cl : Int → Int) (n f : Int) : Int := if n + cl f < most then n + cl f else most
def sumN (most : Int) (cl : Int → Int) (fs : List Int) : Int := if fs = [] then 0 else fs.foldl (stepN most cl) 1
def bestN (most : Int) (cl : Int → Int) (cs : List CT) (b : Int) : Int := cs.foldl (fun b c => if sumN most cl c.fields > b then sumN most cl c.fields else b) b
def clF (d : List DT) (most : Int) : Nat → Int → Int
  | 0, _ => 0
  | s + 1, t => if t = 0 then 0 else bestN most (clF d most s) (consF d t) 0
theorem stepN_bd {most : Int} {cl : Int → Int} {n f : Int} (hm : 0 ≤ most) (hn : 0 ≤ n) (hc : 0 ≤ cl f) : 0 ≤ stepN most cl n f ∧ stepN most cl n f ≤ most := by
  unfold stepN; split <;> omega
theorem foldN_bd {most : Int} {cl : Int → Int} (hm : 0 ≤ most) : ∀ (fs : List Int) (n : Int), (∀ f ∈ fs, 0 ≤ cl f) → 0 ≤ n → 0 ≤ fs.foldl (stepN most cl) n ∧ (fs ≠ [] → fs.foldl (stepN most cl) n ≤ most)
  | [], n, _, hn => ⟨hn, fun h => absurd rfl h⟩
  | f :: fs, n, hc, hn => by
    have h1 := stepN_bd (cl := cl) (n := n) (f := f) hm hn (hc f (List.mem_cons_self ..))
    have h2 := foldN_bd hm fs (stepN most cl n f) (fun g hg => hc g (List.mem_cons_of_mem _ hg)) h1.1
    refine ⟨h2.1, fun _ => ?_⟩
    cases fs with
    | nil => exact h1.2
    | cons g gs => exact h2.2 (by simp)
theorem sumN_bd {most : Int} {cl : Int → Int} (hm : 0 ≤ most) (fs : List Int) (hc : ∀ f ∈ fs, 0 ≤ cl f) : 0 ≤ sumN most cl fs ∧ sumN most cl fs ≤ most := by
  unfold sumN
  split
  · omega
  · rename_i h; have := foldN_bd hm fs 1 hc (by omega); exact ⟨this.1, this.2 h⟩
theorem bestN_bd {most : Int} {cl : Int → Int} (hm : 0 ≤ most) (hc : ∀ f, 0 ≤ cl f) : ∀ (cs : List CT) (b : Int), 0 ≤ b → b ≤ most → 0 ≤ bestN most cl cs b ∧ bestN most cl cs b ≤ most
  | [], b, h0, h1 => ⟨h0, h1⟩
  | c :: cs, b, h0, h1 => by
    have := sumN_bd hm c.fields (fun f _ => hc f)
    refine bestN_bd hm hc cs _ ?_ ?_ <;> (dsimp only; split <;> omega)
theorem sumN_push (most : Int) (cl : Int → Int) (l : List Int) (f : Int) : sumN most cl (l ++ [f]) = stepN most cl (if l = [] then 1 else sumN most cl l) f := by
  unfold sumN
  rw [if_neg (by simp), List.foldl_append]
  by_cases h : l = []
  · subst h; rfl
  · rw [if_neg h, if_neg h]; rfl
theorem clF_bd {d : List DT} {most : Int} (hm : 0 ≤ most) : ∀ (s : Nat) (t : Int), 0 ≤ clF d most s t ∧ clF d most s t ≤ most
  | 0, t => ⟨Int.le_refl _, hm⟩
  | s + 1, t => by
    unfold clF
    split
    · omega
    · exact bestN_bd hm (fun f => (clF_bd hm s f).1) _ 0 (by omega) hm
noncomputable def limF (d : List DT) (t most : Int) : Int := if (reachF d t).any (recF d) then most else (if clF d most (d.length + 3) t < most then clF d most (d.length + 3) t else most)
end Go.Proofs.YtieaiheejhmbfaaGreatDoor.ML
