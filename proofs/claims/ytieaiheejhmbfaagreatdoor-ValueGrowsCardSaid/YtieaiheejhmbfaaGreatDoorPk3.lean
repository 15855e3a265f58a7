/- The abstract layer: the same rules, the new state reckoned by instances. No conditions. -/
import Derived.Test.YtieaiheejhmbfaaGreatDoorPk2
import Derived.MapKept
import Derived.Laws.Small
import Derived.Laws.OwnMore
namespace Go.Proofs.YtieaiheejhmbfaaGreatDoor.ML
open Go.RowKit
set_option linter.unusedVariables false
set_option linter.unusedSimpArgs false
class Gt (tm : Tm) (i : Nat) (v : outParam Value) : Prop where out : tm.getD i undef = v
class Pt (tm : Tm) (i : Nat) (F : outParam (Value → Tm)) : Prop where out : ∀ v, tm.set i v = F v
instance {a0 : Value} {l : Tm} : Gt (a0 :: l) 0 a0 := ⟨rfl⟩
instance {a0 a1 : Value} {l : Tm} : Gt (a0 :: a1 :: l) 1 a1 := ⟨rfl⟩
instance {a0 a1 a2 : Value} {l : Tm} : Gt (a0 :: a1 :: a2 :: l) 2 a2 := ⟨rfl⟩
instance {a0 a1 a2 a3 : Value} {l : Tm} : Gt (a0 :: a1 :: a2 :: a3 :: l) 3 a3 := ⟨rfl⟩
instance {a0 a1 a2 a3 a4 : Value} {l : Tm} : Gt (a0 :: a1 :: a2 :: a3 :: a4 :: l) 4 a4 := ⟨rfl⟩
instance {a0 a1 a2 a3 a4 a5 : Value} {l : Tm} : Gt (a0 :: a1 :: a2 :: a3 :: a4 :: a5 :: l) 5 a5 := ⟨rfl⟩
instance {a0 a1 a2 a3 a4 a5 a6 : Value} {l : Tm} : Gt (a0 :: a1 :: a2 :: a3 :: a4 :: a5 :: a6 :: l) 6 a6 := ⟨rfl⟩
instance {a0 a1 a2 a3 a4 a5 a6 a7 : Value} {l : Tm} : Gt (a0 :: a1 :: a2 :: a3 :: a4 :: a5 :: a6 :: a7 :: l) 7 a7 := ⟨rfl⟩
instance {a0 a1 a2 a3 a4 a5 a6 a7 a8 : Value} {l : Tm} : Gt (a0 :: a1 :: a2 :: a3 :: a4 :: a5 :: a6 :: a7 :: a8 :: l) 8 a8 := ⟨rfl⟩
instance {a0 a1 a2 a3 a4 a5 a6 a7 a8 a9 : Value} {l : Tm} : Gt (a0 :: a1 :: a2 :: a3 :: a4 :: a5 :: a6 :: a7 :: a8 :: a9 :: l) 9 a9 := ⟨rfl⟩
instance {a0 a1 a2 a3 a4 a5 a6 a7 a8 a9 : Value} {l : Tm} {n : Nat} {v : Value} [h : Gt l n v] : Gt (a0 :: a1 :: a2 :: a3 :: a4 :: a5 :: a6 :: a7 :: a8 :: a9 :: l) (n + 10) v := ⟨by have := h.out; simpa using this⟩
instance {a0 : Value} {l : Tm} : Pt (a0 :: l) 0 (fun v => v :: l) := ⟨fun _ => rfl⟩
instance {a0 a1 : Value} {l : Tm} : Pt (a0 :: a1 :: l) 1 (fun v => a0 :: v :: l) := ⟨fun _ => rfl⟩
instance {a0 a1 a2 : Value} {l : Tm} : Pt (a0 :: a1 :: a2 :: l) 2 (fun v => a0 :: a1 :: v :: l) := ⟨fun _ => rfl⟩
instance {a0 a1 a2 a3 : Value} {l : Tm} : Pt (a0 :: a1 :: a2 :: a3 :: l) 3 (fun v => a0 :: a1 :: a2 :: v :: l) := ⟨fun _ => rfl⟩
instance {a0 a1 a2 a3 a4 : Value} {l : Tm} : Pt (a0 :: a1 :: a2 :: a3 :: a4 :: l) 4 (fun v => a0 :: a1 :: a2 :: a3 :: v :: l) := ⟨fun _ => rfl⟩
instance {a0 a1 a2 a3 a4 a5 : Value} {l : Tm} : Pt (a0 :: a1 :: a2 :: a3 :: a4 :: a5 :: l) 5 (fun v => a0 :: a1 :: a2 :: a3 :: a4 :: v :: l) := ⟨fun _ => rfl⟩
instance {a0 a1 a2 a3 a4 a5 a6 : Value} {l : Tm} : Pt (a0 :: a1 :: a2 :: a3 :: a4 :: a5 :: a6 :: l) 6 (fun v => a0 :: a1 :: a2 :: a3 :: a4 :: a5 :: v :: l) := ⟨fun _ => rfl⟩
instance {a0 a1 a2 a3 a4 a5 a6 a7 : Value} {l : Tm} : Pt (a0 :: a1 :: a2 :: a3 :: a4 :: a5 :: a6 :: a7 :: l) 7 (fun v => a0 :: a1 :: a2 :: a3 :: a4 :: a5 :: a6 :: v :: l) := ⟨fun _ => rfl⟩
instance {a0 a1 a2 a3 a4 a5 a6 a7 a8 : Value} {l : Tm} : Pt (a0 :: a1 :: a2 :: a3 :: a4 :: a5 :: a6 :: a7 :: a8 :: l) 8 (fun v => a0 :: a1 :: a2 :: a3 :: a4 :: a5 :: a6 :: a7 :: v :: l) := ⟨fun _ => rfl⟩
instance {a0 a1 a2 a3 a4 a5 a6 a7 a8 a9 : Value} {l : Tm} : Pt (a0 :: a1 :: a2 :: a3 :: a4 :: a5 :: a6 :: a7 :: a8 :: a9 :: l) 9 (fun v => a0 :: a1 :: a2 :: a3 :: a4 :: a5 :: a6 :: a7 :: a8 :: v :: l) := ⟨fun _ => rfl⟩
instance {a0 a1 a2 a3 a4 a5 a6 a7 a8 a9 : Value} {l : Tm} {F : Value → Tm} {n : Nat} [h : Pt l n F] : Pt (a0 :: a1 :: a2 :: a3 :: a4 :: a5 :: a6 :: a7 :: a8 :: a9 :: l) (n + 10) (fun v => a0 :: a1 :: a2 :: a3 :: a4 :: a5 :: a6 :: a7 :: a8 :: a9 :: F v) := ⟨fun v => by have := h.out v; rw [← this]; rfl⟩
class Ev (tm : Tm) (x : Operand) (v : outParam Value) : Prop where out : ev tm x = v
instance {tm : Tm} {t : Nat} {v : Value} [h : Gt tm t v] : Ev tm (.tmp t) v := ⟨h.out⟩
instance {tm : Tm} {v : Value} : Ev tm (.const v) v := ⟨rfl⟩
instance {tm : Tm} {f : Nat} : Ev tm (.func f) (.func (.func f) #[] #[]) := ⟨rfl⟩
instance {tm : Tm} {g : Nat} : Ev tm (.global g) (.pointer (some ⟨g, 0, none⟩)) := ⟨rfl⟩
class Evs (tm : Tm) (xs : List Operand) (vs : outParam (List Value)) : Prop where out : xs.map (ev tm) = vs
instance {tm : Tm} : Evs tm [] [] := ⟨rfl⟩
instance {tm : Tm} {x : Operand} {xs : List Operand} {v : Value} {vs : List Value} [h : Ev tm x v] [hs : Evs tm xs vs] : Evs tm (x :: xs) (v :: vs) := ⟨by rw [List.map_cons, h.out, hs.out]⟩
class Evp (tm : Tm) (xs : List (Nat × Operand)) (vs : outParam (List (Nat × Value))) : Prop where out : xs.map (fun p => (p.1, ev tm p.2)) = vs
instance {tm : Tm} : Evp tm [] [] := ⟨rfl⟩
instance {tm : Tm} {i : Nat} {x : Operand} {xs : List (Nat × Operand)} {v : Value} {vs : List (Nat × Value)} [h : Ev tm x v] [hs : Evp tm xs vs] : Evp tm ((i, x) :: xs) ((i, v) :: vs) := ⟨by rw [List.map_cons, h.out, hs.out]⟩
class Cat (a b : List Value) (c : outParam (List Value)) : Prop where out : a ++ b = c
instance {b : List Value} : Cat [] b b := ⟨rfl⟩
instance {x : Value} {a b c : List Value} [h : Cat a b c] : Cat (x :: a) b (x :: c) := ⟨by rw [List.cons_append, h.out]⟩
class Cl (v : Value) (cs : outParam (List Value)) : Prop where out : v.cells = cs.toArray
instance {cs : List Value} : Cl (.agg cs.toArray) cs := ⟨rfl⟩
instance {k : IntKind} {n : Int} : Cl (.int k n) [.int k n] := ⟨rfl⟩
instance {b : Bool} : Cl (.bool b) [.bool b] := ⟨rfl⟩
instance {s : ByteArray} : Cl (.string s) [.string s] := ⟨rfl⟩
instance {A : Option Addr} : Cl (.pointer A) [.pointer A] := ⟨rfl⟩
instance {A : Option Addr} {n c : Nat} : Cl (.slice A n c) [.slice A n c] := ⟨rfl⟩
instance {A : Option Nat} : Cl (.map A) [.map A] := ⟨rfl⟩
instance {f : Go.Fn} {a b : Array Value} : Cl (.func f a b) [.func f a b] := ⟨rfl⟩
instance : Cl .nilFunc [.nilFunc] := ⟨rfl⟩
instance : Cl .nilIface [.nilIface] := ⟨rfl⟩
instance {t : TypeId} {v : Value} : Cl (.iface t v) [.iface t v] := ⟨rfl⟩
class One (v : Value) : Prop where out : v.oneCell' = true
instance {k : IntKind} {n : Int} : One (.int k n) := ⟨rfl⟩
instance {b : Bool} : One (.bool b) := ⟨rfl⟩
instance {s : ByteArray} : One (.string s) := ⟨rfl⟩
instance {A : Option Addr} : One (.pointer A) := ⟨rfl⟩
instance {A : Option Addr} {n c : Nat} : One (.slice A n c) := ⟨rfl⟩
instance {A : Option Nat} : One (.map A) := ⟨rfl⟩
instance {f : Go.Fn} {a b : Array Value} : One (.func f a b) := ⟨rfl⟩
instance : One .nilFunc := ⟨rfl⟩
instance : One .nilIface := ⟨rfl⟩
instance {t : TypeId} {v : Value} : One (.iface t v) := ⟨rfl⟩
class Ones (vs : List Value) : Prop where out : ∀ v ∈ vs, v.oneCell' = true
instance : Ones [] := ⟨by simp⟩
instance {v : Value} {vs : List Value} [h : One v] [hs : Ones vs] : Ones (v :: vs) := ⟨by intro u hu; rcases List.mem_cons.1 hu with rfl | hu; exact h.out; exact hs.out u hu⟩
/-- A cell that is read: of a block of the call's own, or known to stay. -/
class Lg (cs : List Value) (i : Nat) (v : outParam Value) : Prop where out : cs[i]? = some v
instance {a : Value} {l : List Value} : Lg (a :: l) 0 a := ⟨rfl⟩
instance {a b : Value} {l : List Value} : Lg (a :: b :: l) 1 b := ⟨rfl⟩
instance {a b c : Value} {l : List Value} : Lg (a :: b :: c :: l) 2 c := ⟨rfl⟩
instance {a b c d : Value} {l : List Value} : Lg (a :: b :: c :: d :: l) 3 d := ⟨rfl⟩
instance {a b c d : Value} {l : List Value} {i : Nat} {v : Value} [h : Lg l i v] : Lg (a :: b :: c :: d :: l) (i + 4) v := ⟨by have := h.out; simpa using this⟩
class Lp (cs : List Value) (i : Nat) (v : Value) (cs' : outParam (List Value)) : Prop where out : cs.set i v = cs' ∧ i < cs.length
instance {a v : Value} {l : List Value} : Lp (a :: l) 0 v (v :: l) := ⟨rfl, by simp⟩
instance {a b v : Value} {l : List Value} : Lp (a :: b :: l) 1 v (a :: v :: l) := ⟨rfl, by simp⟩
instance {a b c v : Value} {l : List Value} : Lp (a :: b :: c :: l) 2 v (a :: b :: v :: l) := ⟨rfl, by simp⟩
instance {a b c d v : Value} {l : List Value} : Lp (a :: b :: c :: d :: l) 3 v (a :: b :: c :: v :: l) := ⟨rfl, by simp⟩
instance {a b c d v : Value} {l l' : List Value} {i : Nat} [h : Lp l i v l'] : Lp (a :: b :: c :: d :: l) (i + 4) v (a :: b :: c :: d :: l') := ⟨by have := h.out.1; subst this; rfl, by have := h.out.2; simp; omega⟩
/-- What is known of memory that stays. -/
class Mk (M : Mem) (b off : Nat) (v : outParam Value) : Prop where out : Mc M b off = some v
class Mb (M : Mem) (b : Nat) (cs : outParam (List Value)) : Prop where out : ∃ T fz, M b = some (.cells cs.toArray T fz)
class Le (M : outParam Mem) (M' : Mem) : Prop where out : M.le M'
class LeT (M M' : Mem) : Prop where out : M.le M'
instance {M : Mem} : LeT M M := ⟨.refl M⟩
instance (priority := low) {M M' M'' : Mem} [k : Le M' M''] [h : LeT M M'] : LeT M M'' := ⟨h.out.trans k.out⟩
instance (priority := low) {M M' : Mem} {b off : Nat} {v : Value} [k : Le M M'] [h : Mk M b off v] : Mk M' b off v := ⟨Mc.mono k.out h.out⟩
instance (priority := low) {M M' : Mem} {b : Nat} {cs : List Value} [k : Le M M'] [h : Mb M b cs] : Mb M' b cs := ⟨by obtain ⟨T, fz, e⟩ := h.out; exact ⟨T, fz, k.out _ _ e⟩⟩
class Mg (M : Mem) (b off : Nat) (v : outParam Value) : Prop where out : Mc M b off = some v
instance {M : Mem} {b off : Nat} {v : Value} [h : Mk M b off v] : Mg M b off v := ⟨h.out⟩
instance {M : Mem} {b off : Nat} {cs : List Value} {v : Value} [h : Mb M b cs] [hl : Lg cs off v] : Mg M b off v := ⟨by obtain ⟨T, fz, e⟩ := h.out; unfold Mc; rw [e]; have := hl.out; simpa using this⟩
class Mgs (M : Mem) (b off n : Nat) (vs : outParam (List Value)) : Prop where out : Cels M [] b off vs ∧ vs.length = n
instance {M : Mem} {b off : Nat} : Mgs M b off 0 [] := ⟨trivial, rfl⟩
instance {M : Mem} {b off n : Nat} {v : Value} {vs : List Value} [h : Mg M b off v] [hs : Mgs M b (off + 1) n vs] : Mgs M b off (n + 1) (v :: vs) := ⟨⟨.m h.out, hs.out.1⟩, by rw [List.length_cons, hs.out.2]⟩
class Ln (cs : List Value) (n : Nat) : Prop where out : cs.length = n
instance : Ln [] 0 := ⟨rfl⟩
instance {a : Value} {l : List Value} {n : Nat} [h : Ln l n] : Ln (a :: l) (n + 1) := ⟨by rw [List.length_cons, h.out]⟩
theorem Cels.all {M : Mem} {H : Heap} {b : Nat} {cs : List Value} (h : ∀ j v, cs[j]? = some v → Cel M H b j v) : ∀ (l : List Value) (p : Nat), (∀ j v, l[j]? = some v → cs[p + j]? = some v) → Cels M H b p l
  | [], _, _ => trivial
  | u :: l, p, hl => ⟨h _ _ (by have := hl 0 u rfl; simpa using this), Cels.all h l (p + 1) fun j v hj => by
      have := hl (j + 1) v (by simpa using hj)
      rwa [show p + (j + 1) = p + 1 + j by omega] at this⟩
instance (priority := high) {M : Mem} {b n : Nat} {cs : List Value} [h : Mb M b cs] [hl : Ln cs n] : Mgs M b 0 n cs := ⟨Cels.all (fun j v hj => by
  obtain ⟨T, fz, e⟩ := h.out; exact .mb e (by simpa using hj)) cs 0 (fun j v hj => by simpa using hj), hl.out⟩
class Cg (M : Mem) (H : Heap) (b off : Nat) (v : outParam Value) : Prop where out : Cel M H b off v
theorem Cel.cons {M : Mem} {H : Heap} {b off : Nat} {v : Value} {e : Ent} (h : Cel M H b off v) : Cel M (e :: H) b off v := by
  rcases h with h | ⟨cs, T, fz, hm, hc⟩ | ⟨n, c, T, z, vs, hm, hc⟩
  · exact .inl h
  · exact .inr (.inl ⟨cs, T, fz, List.mem_cons_of_mem _ hm, hc⟩)
  · exact .inr (.inr ⟨n, c, T, z, vs, List.mem_cons_of_mem _ hm, hc⟩)
instance {M : Mem} {H : Heap} {b off : Nat} {v : Value} {cs : List Value} {T : TypeId} {fz : Nat × Nat} [h : Lg cs off v] : Cg M (.blk b (.cells cs.toArray T fz) :: H) b off v := ⟨.at 0 rfl (by have := h.out; simpa using this)⟩
instance (priority := low) {M : Mem} {H : Heap} {b off : Nat} {v : Value} {e : Ent} [h : Cg M H b off v] : Cg M (e :: H) b off v := ⟨h.out.cons⟩
class Cgs (M : Mem) (H : Heap) (b off n : Nat) (vs : outParam (List Value)) : Prop where out : Cels M H b off vs ∧ vs.length = n
instance {M : Mem} {H : Heap} {b off : Nat} : Cgs M H b off 0 [] := ⟨trivial, rfl⟩
instance {M : Mem} {H : Heap} {b off n : Nat} {v : Value} {vs : List Value} [h : Cg M H b off v] [hs : Cgs M H b (off + 1) n vs] : Cgs M H b off (n + 1) (v :: vs) := ⟨⟨h.out, hs.out.1⟩, by rw [List.length_cons, hs.out.2]⟩
instance (priority := high) {M : Mem} {H : Heap} {b n : Nat} {cs : List Value} {T : TypeId} {fz : Nat × Nat} [hl : Ln cs n] : Cgs M (.blk b (.cells cs.toArray T fz) :: H) b 0 n cs := ⟨Cels.all (fun j v hj => .at 0 rfl (by simpa using hj)) cs 0 (fun j v hj => by simpa using hj), hl.out⟩
theorem Cels.cons {M : Mem} {H : Heap} {b : Nat} {e : Ent} : ∀ {vs : List Value} {off : Nat}, Cels M H b off vs → Cels M (e :: H) b off vs
  | [], _, _ => trivial
  | _ :: _, _, h => ⟨h.1.cons, Cels.cons h.2⟩
instance (priority := low) {M : Mem} {H : Heap} {b n : Nat} {vs : List Value} {e : Ent} [h : Cgs M H b 0 n vs] : Cgs M (e :: H) b 0 n vs := ⟨h.out.1.cons, h.out.2⟩
class Cp (H : Heap) (b off : Nat) (v : Value) (H' : outParam Heap) : Prop where
  out : ∃ i cs cs' T, H[i]? = some (.blk b (.cells cs T (0, 0))) ∧ off < cs.size ∧ H.set i (.blk b (.cells cs' T (0, 0))) = H' ∧ cs.setIfInBounds off v = cs'
instance {H : Heap} {b off : Nat} {v : Value} {cs cs' : List Value} {T : TypeId} [h : Lp cs off v cs'] : Cp (.blk b (.cells cs.toArray T (0, 0)) :: H) b off v (.blk b (.cells cs'.toArray T (0, 0)) :: H) :=
  ⟨0, cs.toArray, cs'.toArray, T, rfl, by simpa using h.out.2, rfl, by rw [← h.out.1]; simp⟩
instance (priority := low) {H H' : Heap} {b off : Nat} {v : Value} {e : Ent} [h : Cp H b off v H'] : Cp (e :: H) b off v (e :: H') :=
  ⟨by obtain ⟨i, cs, cs', T, h1, h2, h3, h4⟩ := h.out; exact ⟨i + 1, cs, cs', T, by simpa using h1, h2, by rw [← h3]; rfl, h4⟩⟩
/-- A block that is written whole. -/
class Cw (H : Heap) (b : Nat) (vs : List Value) (H' : outParam Heap) : Prop where
  out : ∃ i cs T, H[i]? = some (.blk b (.cells cs T (0, 0))) ∧ vs.length = cs.size ∧ H.set i (.blk b (.cells vs.toArray T (0, 0))) = H'
class Ll (a b : List Value) : Prop where out : a.length = b.length
instance : Ll [] [] := ⟨rfl⟩
instance {x y : Value} {a b : List Value} [h : Ll a b] : Ll (x :: a) (y :: b) := ⟨by simp [h.out]⟩
instance {H : Heap} {b : Nat} {cs vs : List Value} {T : TypeId} [h : Ll vs cs] : Cw (.blk b (.cells cs.toArray T (0, 0)) :: H) b vs (.blk b (.cells vs.toArray T (0, 0)) :: H) := ⟨0, cs.toArray, T, rfl, by simpa using h.out, rfl⟩
instance (priority := low) {H H' : Heap} {b : Nat} {vs : List Value} {e : Ent} [h : Cw H b vs H'] : Cw (e :: H) b vs (e :: H') :=
  ⟨by obtain ⟨i, cs, T, h1, h2, h3⟩ := h.out; exact ⟨i + 1, cs, T, by simpa using h1, h2, by rw [← h3]; rfl⟩⟩
section
variable {P : Program} {ro : RO} {ops : Array Oper} {Q : Post} {rest : List Oper} {tm : Tm} {F : Value → Tm} {M : Mem} {H H' : Heap} {K : Tm → Mem → Heap → Prop} {gd : Option (Nat × Bool)}
variable {d : Nat} {ty : TypeId} {pos : String} {aft : Array Edge} {x y z : Operand} {T T' : TypeId} {k k' : IntKind} {i j : Int} {op : Op} {v : Value} {dd : Option Tmp}
/-! ### Steps -/
theorem st (hv : PVM P ⟨some d, op, ty, pos, aft, none⟩ tm M v) [hp : Pt tm d F] (h : AO P ro ops Q rest (F v) M H) : AO P ro ops Q (⟨some d, op, ty, pos, aft, none⟩ :: rest) tm M H :=
  AO.p hv (by show AO P ro ops Q rest (tm.set d v) M H; rw [hp.out v]; exact h)
theorem sq (hv : PVH P ⟨some d, op, ty, pos, aft, none⟩ tm M H v) [hp : Pt tm d F] (h : AO P ro ops Q rest (F v) M H) : AO P ro ops Q (⟨some d, op, ty, pos, aft, none⟩ :: rest) tm M H :=
  AO.q hv (by show AO P ro ops Q rest (tm.set d v) M H; rw [hp.out v]; exact h)
theorem se (h : AS P ro ⟨dd, op, ty, pos, aft, none⟩ tm M H (AO P ro ops Q rest)) : AO P ro ops Q (⟨dd, op, ty, pos, aft, none⟩ :: rest) tm M H := AO.cons h
theorem sn (h : Q .normal tm M H) : AO P ro ops Q [] tm M H := AO.nil h
end
section
variable {P : Program} {ro : RO} {ops : Array Oper} {Q : Post} {rest : List Oper} {tm : Tm} {F : Value → Tm} {M : Mem} {H H' : Heap} {K : Tm → Mem → Heap → Prop} {gd : Option (Nat × Bool)}
variable {d : Option Tmp} {ty : TypeId} {pos : String} {aft : Array Edge} {x y z : Operand} {T T' : TypeId} {k k' : IntKind} {a b : Int} {op : Op} {v u : Value}
namespace V
theorem move [h : Ev tm x v] : PVM P ⟨d, .move x, ty, pos, aft, gd⟩ tm M v := by have := PV.move (P := P) (tm := tm) (M := M) (d := d) (ty := ty) (pos := pos) (aft := aft) (gd := gd) (x := x); rwa [h.out] at this
theorem assign [h : Ev tm x v] : PVM P ⟨d, .assign x, ty, pos, aft, gd⟩ tm M v := by have := PV.assign (P := P) (tm := tm) (M := M) (d := d) (ty := ty) (pos := pos) (aft := aft) (gd := gd) (x := x); rwa [h.out] at this
theorem pickT [hc : Ev tm x (.bool true)] [h : Ev tm y v] : PVM P ⟨d, .pick x y z, ty, pos, aft, gd⟩ tm M v := by have := PV.pick (P := P) (M := M) (d := d) (ty := ty) (pos := pos) (aft := aft) (gd := gd) (y := y) (z := z) hc.out; rw [if_pos rfl, h.out] at this; exact this
theorem pickF [hc : Ev tm x (.bool false)] [h : Ev tm z v] : PVM P ⟨d, .pick x y z, ty, pos, aft, gd⟩ tm M v := by have := PV.pick (P := P) (M := M) (d := d) (ty := ty) (pos := pos) (aft := aft) (gd := gd) (y := y) (z := z) hc.out; rw [if_neg (by decide), h.out] at this; exact this
theorem add [hx : Ev tm x (.int k a)] [hy : Ev tm y (.int k b)] : PVM P ⟨d, .binOp .add T x y T', ty, pos, aft, gd⟩ tm M (.int k (k.wrap (a + b))) := PV.add hx.out hy.out
theorem sub [hx : Ev tm x (.int k a)] [hy : Ev tm y (.int k b)] : PVM P ⟨d, .binOp .sub T x y T', ty, pos, aft, gd⟩ tm M (.int k (k.wrap (a - b))) := PV.sub hx.out hy.out
theorem mul [hx : Ev tm x (.int k a)] [hy : Ev tm y (.int k b)] : PVM P ⟨d, .binOp .mul T x y T', ty, pos, aft, gd⟩ tm M (.int k (k.wrap (a * b))) := PV.mul hx.out hy.out
theorem eql [hx : Ev tm x (.int k a)] [hy : Ev tm y (.int k b)] : PVM P ⟨d, .binOp .eql T x y T', ty, pos, aft, gd⟩ tm M (.bool (decide (a = b))) := PV.eql hx.out hy.out
theorem neq [hx : Ev tm x (.int k a)] [hy : Ev tm y (.int k b)] : PVM P ⟨d, .binOp .neq T x y T', ty, pos, aft, gd⟩ tm M (.bool (!decide (a = b))) := PV.neq hx.out hy.out
theorem lss [hx : Ev tm x (.int k a)] [hy : Ev tm y (.int k b)] : PVM P ⟨d, .binOp .lss T x y T', ty, pos, aft, gd⟩ tm M (.bool (decide (a < b))) := PV.lss hx.out hy.out
theorem leq [hx : Ev tm x (.int k a)] [hy : Ev tm y (.int k b)] : PVM P ⟨d, .binOp .leq T x y T', ty, pos, aft, gd⟩ tm M (.bool (decide (a ≤ b))) := PV.leq hx.out hy.out
theorem gtr [hx : Ev tm x (.int k a)] [hy : Ev tm y (.int k b)] : PVM P ⟨d, .binOp .gtr T x y T', ty, pos, aft, gd⟩ tm M (.bool (decide (b < a))) := PV.gtr hx.out hy.out
theorem geq [hx : Ev tm x (.int k a)] [hy : Ev tm y (.int k b)] : PVM P ⟨d, .binOp .geq T x y T', ty, pos, aft, gd⟩ tm M (.bool (decide (b ≤ a))) := PV.geq hx.out hy.out
theorem add64 (hb : -9223372036854775808 ≤ a + b ∧ a + b ≤ 9223372036854775807) [hx : Ev tm x (.int .i64 a)] [hy : Ev tm y (.int .i64 b)] : PVM P ⟨d, .binOp .add T x y T', ty, pos, aft, gd⟩ tm M (.int .i64 (a + b)) := PV.add64 hx.out hy.out hb
theorem sub64 (hb : -9223372036854775808 ≤ a - b ∧ a - b ≤ 9223372036854775807) [hx : Ev tm x (.int .i64 a)] [hy : Ev tm y (.int .i64 b)] : PVM P ⟨d, .binOp .sub T x y T', ty, pos, aft, gd⟩ tm M (.int .i64 (a - b)) := PV.sub64 hx.out hy.out hb
theorem mul64 (hb : -9223372036854775808 ≤ a * b ∧ a * b ≤ 9223372036854775807) [hx : Ev tm x (.int .i64 a)] [hy : Ev tm y (.int .i64 b)] : PVM P ⟨d, .binOp .mul T x y T', ty, pos, aft, gd⟩ tm M (.int .i64 (a * b)) := PV.mul64 hx.out hy.out hb
theorem pT {t : Bool} (ht : t = true) [hc : Ev tm x (.bool t)] [h : Ev tm y v] : PVM P ⟨d, .pick x y z, ty, pos, aft, gd⟩ tm M v := by have := PV.pick (P := P) (M := M) (d := d) (ty := ty) (pos := pos) (aft := aft) (gd := gd) (y := y) (z := z) hc.out; rw [if_pos ht, h.out] at this; exact this
theorem pF {t : Bool} (ht : t = false) [hc : Ev tm x (.bool t)] [h : Ev tm z v] : PVM P ⟨d, .pick x y z, ty, pos, aft, gd⟩ tm M v := by have := PV.pick (P := P) (M := M) (d := d) (ty := ty) (pos := pos) (aft := aft) (gd := gd) (y := y) (z := z) hc.out; rw [if_neg (by rw [ht]; decide), h.out] at this; exact this
theorem quo (hb : b ≠ 0) [hx : Ev tm x (.int k a)] [hy : Ev tm y (.int k b)] : PVM P ⟨d, .binOp .quo T x y T', ty, pos, aft, gd⟩ tm M (.int k (k.wrap (a.tdiv b))) := PV.quo hx.out hy.out hb
theorem rem (hb : b ≠ 0) [hx : Ev tm x (.int k a)] [hy : Ev tm y (.int k b)] : PVM P ⟨d, .binOp .rem T x y T', ty, pos, aft, gd⟩ tm M (.int k (a.tmod b)) := PV.rem hx.out hy.out hb
theorem cat {s t : ByteArray} (hl : s.size + t.size ≤ 9223372036854775807) [hx : Ev tm x (.string s)] [hy : Ev tm y (.string t)] : PVM P ⟨d, .binOp .add T x y T', ty, pos, aft, gd⟩ tm M (.string (s ++ t)) := PV.cat hx.out hy.out hl
theorem eqs {s t : ByteArray} [hx : Ev tm x (.string s)] [hy : Ev tm y (.string t)] : PVM P ⟨d, .binOp .eql T x y T', ty, pos, aft, gd⟩ tm M (.bool (decide (s = t))) := PV.eqs hx.out hy.out
theorem nes {s t : ByteArray} [hx : Ev tm x (.string s)] [hy : Ev tm y (.string t)] : PVM P ⟨d, .binOp .neq T x y T', ty, pos, aft, gd⟩ tm M (.bool (!decide (s = t))) := PV.nes hx.out hy.out
theorem not {t : Bool} [hx : Ev tm x (.bool t)] : PVM P ⟨d, .unOp .not T x, ty, pos, aft, gd⟩ tm M (.bool !t) := PV.not hx.out
theorem neg [hx : Ev tm x (.int k a)] : PVM P ⟨d, .unOp .neg T x, ty, pos, aft, gd⟩ tm M (.int k (k.wrap (0 - a))) := PV.neg hx.out
theorem ext {vs : List Value} {i : Nat} [hx : Ev tm x (.tuple vs.toArray)] [hi : Lg vs i v] : PVM P ⟨d, .extract x i, ty, pos, aft, gd⟩ tm M v := PV.extract hx.out (by have := hi.out; simpa using this)
theorem fn {f : Go.Fn} {xs ys : List Operand} {us vs : List Value} [h1 : Evs tm xs us] [h2 : Evs tm ys vs] : PVM P ⟨d, .makeFunc f xs.toArray ys.toArray, ty, pos, aft, gd⟩ tm M (.func f us.toArray vs.toArray) := by
  have := PV.makeFunc (P := P) (tm := tm) (M := M) (d := d) (ty := ty) (pos := pos) (aft := aft) (gd := gd) (fn := f) (f := xs.toArray) (c := ys.toArray)
  simpa [h1.out, h2.out] using this
theorem fa {f off b q : Nat} [Fo P T f off] [hx : Ev tm x (.pointer (some ⟨b, q, none⟩))] : PVM P ⟨d, .fieldAddr T x f, ty, pos, aft, gd⟩ tm M (.pointer (some ⟨b, q + off, none⟩)) := PV.fieldAddr hx.out
theorem fa0 {f b q : Nat} [hf : Fo P T f 0] [hx : Ev tm x (.pointer (some ⟨b, q, none⟩))] : PVM P ⟨d, .fieldAddr T x f, ty, pos, aft, gd⟩ tm M (.pointer (some ⟨b, q, none⟩)) := PV.fieldAddr (off := 0) hx.out
theorem faz {f b off : Nat} [Fo P T f off] [hx : Ev tm x (.pointer (some ⟨b, 0, none⟩))] : PVM P ⟨d, .fieldAddr T x f, ty, pos, aft, gd⟩ tm M (.pointer (some ⟨b, off, none⟩)) := by
  have := PV.fieldAddr (P := P) (M := M) (d := d) (ty := ty) (pos := pos) (aft := aft) (gd := gd) (T := T) (f := f) (off := off) hx.out
  rwa [Nat.zero_add] at this
theorem lenS {s : ByteArray} [Str P T] [hx : Ev tm x (.string s)] : PVM P ⟨d, .call ⟨.builtin .len, #[x], #[T]⟩, ty, pos, aft, gd⟩ tm M (.int .i64 s.size) := PV.lenS hx.out
theorem len {A : Option Addr} {n c E s : Nat} [El P T E s] [hx : Ev tm x (.slice A n c)] : PVM P ⟨d, .call ⟨.builtin .len, #[x], #[T]⟩, ty, pos, aft, gd⟩ tm M (.int .i64 n) := PV.len hx.out
theorem idx {s : ByteArray} (h0 : 0 ≤ b) (h1 : b < s.size) [Str P T] [hx : Ev tm x (.string s)] [hy : Ev tm y (.int k b)] : PVM P ⟨d, .index T x y, ty, pos, aft, gd⟩ tm M (.int .u8 (byt s b)) := PV.index hx.out hy.out h0 h1
theorem sub1 {s : ByteArray} (h0 : 0 ≤ a) (h1 : a ≤ b) (h2 : b ≤ s.size) [Str P T] [hx : Ev tm x (.string s)] [hy : Ev tm y (.int k a)] [hz : Ev tm z (.int k' b)] : PVM P ⟨d, .slice T x (some y) (some z) none, ty, pos, aft, gd⟩ tm M (.string (s.extract a.toNat b.toNat)) := PV.sliceS hx.out hy.out hz.out h0 h1 h2
theorem subL {s : ByteArray} (h0 : 0 ≤ a) (h1 : a ≤ s.size) [Str P T] [hx : Ev tm x (.string s)] [hy : Ev tm y (.int k a)] : PVM P ⟨d, .slice T x (some y) none none, ty, pos, aft, gd⟩ tm M (.string (s.extract a.toNat s.size)) := PV.sliceSl hx.out hy.out h0 h1
theorem subH {s : ByteArray} (h0 : 0 ≤ b) (h1 : b ≤ s.size) [Str P T] [hx : Ev tm x (.string s)] [hz : Ev tm z (.int k' b)] : PVM P ⟨d, .slice T x none (some z) none, ty, pos, aft, gd⟩ tm M (.string (s.extract 0 b.toNat)) := PV.sliceSh hx.out hz.out h0 h1
theorem ia {g o n c E s : Nat} (h0 : 0 ≤ b) (h1 : b < n) [El P T E s] [hx : Ev tm x (.slice (some ⟨g, o, none⟩) n c)] [hy : Ev tm y (.int k b)] : PVM P ⟨d, .indexAddr T x y, ty, pos, aft, gd⟩ tm M (.pointer (some ⟨g, o + b.toNat * s, none⟩)) := PV.indexAddr hx.out hy.out h0 h1
/-- A slice whose address is known once it has elements. -/
theorem ib {A : Option Addr} {g o n c E s : Nat} (j : Nat) (hj : b = (j : Int)) (h1 : j < n) (hA : A = some ⟨g, o, none⟩) [El P T E s] [hx : Ev tm x (.slice A n c)] [hy : Ev tm y (.int k b)] : PVM P ⟨d, .indexAddr T x y, ty, pos, aft, gd⟩ tm M (.pointer (some ⟨g, o + j * s, none⟩)) := by
  subst hA; subst hj
  exact PV.indexAddr hx.out hy.out (Int.natCast_nonneg _) (by omega)
theorem slL {A : Option Addr} {n c E s : Nat} (h0 : 0 ≤ b) (h1 : b ≤ n) [El P T E s] [hx : Ev tm x (.slice A n c)] [hy : Ev tm y (.int k b)] : PVM P ⟨d, .slice T x (some y) none none, ty, pos, aft, gd⟩ tm M (.slice (dropA A s b.toNat c) (n - b.toNat) (c - b.toNat)) := PV.sliceL hx.out hy.out h0 h1
theorem slH {A : Option Addr} {n c E s : Nat} (h0 : 0 ≤ b) (h1 : b ≤ c) [El P T E s] [hx : Ev tm x (.slice A n c)] [hy : Ev tm y (.int k b)] : PVM P ⟨d, .slice T x none (some y) none, ty, pos, aft, gd⟩ tm M (.slice A b.toNat c) := PV.sliceH hx.out hy.out h0 h1
theorem build {places : List (Nat × Nat)} {zero : Array Value} {cells : List Value} {ps : List (Nat × Operand)} {vs : List (Nat × Value)} [Pl P T places zero] [hv : Evp tm ps vs] (hf : Instr.fill (fun i => places[i]?) zero vs = some cells.toArray) : PVM P ⟨d, .build T ps.toArray, ty, pos, aft, gd⟩ tm M (.agg cells.toArray) := PV.build (by rw [show ps.toArray.toList = ps from rfl, hv.out]; exact hf)
theorem conv [It P T k] [It P T' k'] [hx : Ev tm x (.int k a)] : PVM P ⟨d, .convert T T' x, ty, pos, aft, gd⟩ tm M (.int k' (k'.wrap a)) := PV.conv hx.out
theorem conv64 (hb : -9223372036854775808 ≤ a ∧ a ≤ 9223372036854775807) [It P T k] [It P T' .i64] [hx : Ev tm x (.int k a)] : PVM P ⟨d, .convert T T' x, ty, pos, aft, gd⟩ tm M (.int .i64 a) := PV.conv64 hx.out hb
theorem convS {s : ByteArray} [Str P T] [Str P T'] [hx : Ev tm x (.string s)] : PVM P ⟨d, .convert T T' x, ty, pos, aft, gd⟩ tm M (.string s) := PV.convS hx.out
theorem nc {b o : Nat} [hx : Ev tm x (.pointer (some ⟨b, o, none⟩))] : PVM P ⟨d, .nilCheck x, ty, pos, aft, gd⟩ tm M (.pointer (some ⟨b, o, none⟩)) := PV.nilCheck hx.out
theorem ncF {f : Nat} {fst cap : Array Value} [hx : Ev tm x (.func (.func f) fst cap)] : PVM P ⟨d, .nilCheck x, ty, pos, aft, gd⟩ tm M (.func (.func f) fst cap) := PV.nilCheckF hx.out
theorem min {ts : Array TypeId} [hx : Ev tm x (.int k a)] [hy : Ev tm y (.int k b)] : PVM P ⟨d, .call ⟨.builtin .min, #[x, y], ts⟩, ty, pos, aft, gd⟩ tm M (.int k (if b < a then b else a)) := PV.min hx.out hy.out
theorem max {ts : Array TypeId} [hx : Ev tm x (.int k a)] [hy : Ev tm y (.int k b)] : PVM P ⟨d, .call ⟨.builtin .max, #[x, y], ts⟩, ty, pos, aft, gd⟩ tm M (.int k (if b > a then b else a)) := PV.max hx.out hy.out
/-- A load of what stays. -/
theorem ld {b off : Nat} [Sc P T] [hx : Ev tm x (.pointer (some ⟨b, off, none⟩))] [hc : Mg M b off v] : PVM P ⟨d, .load T x, ty, pos, aft, gd⟩ tm M v := PV.load hx.out hc.out
theorem ldA {b off n : Nat} {vs : List Value} [Ag P T n] [hx : Ev tm x (.pointer (some ⟨b, off, none⟩))] [hc : Mgs M b off n vs] : PVM P ⟨d, .load T x, ty, pos, aft, gd⟩ tm M (.agg vs.toArray) := PV.loadA hx.out hc.out.2 hc.out.1
/-- A load of the call's own. -/
theorem lo {b off : Nat} [Sc P T] [hx : Ev tm x (.pointer (some ⟨b, off, none⟩))] [hc : Cg M H b off v] : PVH P ⟨d, .load T x, ty, pos, aft, gd⟩ tm M H v := PH.load hx.out hc.out
theorem loA {b off n : Nat} {vs : List Value} [Ag P T n] [hx : Ev tm x (.pointer (some ⟨b, off, none⟩))] [hc : Cgs M H b off n vs] : PVH P ⟨d, .load T x, ty, pos, aft, gd⟩ tm M H (.agg vs.toArray) := PH.loadA hx.out hc.out.2 hc.out.1
end V
end
section
variable {P : Program} {ro : RO} {tm : Tm} {F : Value → Tm} {M : Mem} {H H' : Heap} {K : Tm → Mem → Heap → Prop} {gd : Option (Nat × Bool)}
variable {d : Nat} {ty : TypeId} {pos : String} {aft : Array Edge} {x y z : Operand} {T T' : TypeId} {k k' : IntKind} {v u : Value}
namespace S
theorem p {op : Op} (hv : PVM P ⟨some d, op, ty, pos, aft, gd⟩ tm M v) [hp : Pt tm d F] (h : K (F v) M H) : AS P ro ⟨some d, op, ty, pos, aft, gd⟩ tm M H K := AS.p hv (by show K (tm.set d v) M H; rw [hp.out v]; exact h)
theorem box {cs : List Value} [hx : Ev tm x v] [hc : Cl v cs] [hp : Pt tm d F] (h : ∀ b, K (F (.pointer (some ⟨b, 0, none⟩))) M (.blk b (.cells cs.toArray T (0, 0)) :: H)) : AS P ro ⟨some d, .box T x, ty, pos, aft, gd⟩ tm M H K :=
  AS.box hx.out fun b => by rw [hc.out]; show K (tm.set d _) M _; rw [hp.out]; exact h b
/-- A box that is never written: at once memory that stays. -/
theorem boxM {cs : List Value} [hx : Ev tm x v] [hc : Cl v cs] [hp : Pt tm d F] (h : ∀ b M', Le M M' → Mb M' b cs → K (F (.pointer (some ⟨b, 0, none⟩))) M' H) : AS P ro ⟨some d, .box T x, ty, pos, aft, gd⟩ tm M H K :=
  AS.val rfl fun g w hS => by
    have hk := (hS.alloc (.cells cs.toArray T (0, 0))).keep
    refine ⟨.pointer (some ⟨w.heap.size, 0, none⟩), _, _, H, ?_, hk.1, hk.2, ?_⟩
    · simp only [execOp, hx.out]; refine run_v ?_; show Result.ok _ _ = _; rw [hc.out]; rfl
    · show K (tm.set d _) _ H; rw [hp.out]; exact h _ _ ⟨hk.1⟩ ⟨_, _, Mem.add_self ..⟩
theorem alloc {cs : List Value} [Zr P T v] [hc : Cl v cs] [hp : Pt tm d F] (h : ∀ b, K (F (.pointer (some ⟨b, 0, none⟩))) M (.blk b (.cells cs.toArray T (0, 0)) :: H)) : AS P ro ⟨some d, .alloc T, ty, pos, aft, gd⟩ tm M H K :=
  AS.alloc (v := v) fun b => by rw [hc.out]; show K (tm.set d _) M _; rw [hp.out]; exact h b
theorem store {b off : Nat} [Sc P T] [hx : Ev tm x (.pointer (some ⟨b, off, none⟩))] [hy : Ev tm y v] [hv : One v] [hc : Cp H b off v H'] (h : K tm M H') : AS P ro ⟨none, .store T x y, ty, pos, aft, gd⟩ tm M H K := by
  obtain ⟨i, cs, cs', T1, h1, h2, h3, h4⟩ := hc.out
  exact AS.store hx.out hy.out hv.out h1 h2 (by rw [h4, h3]; exact h)
theorem storeA {b n : Nat} {vs : List Value} [Ag P T n] [hx : Ev tm x (.pointer (some ⟨b, 0, none⟩))] [hy : Ev tm y (.agg vs.toArray)] [hv : Ones vs] [hc : Cw H b vs H'] (hn : vs.length = n) (h : K tm M H') : AS P ro ⟨none, .store T x y, ty, pos, aft, gd⟩ tm M H K := by
  obtain ⟨i, cs, T1, h1, h2, h3⟩ := hc.out
  have key : ∀ (l : List Value) (p : Nat) (a : Array Value), p + l.length = a.size → putCells a p l = (a.toList.take p ++ l).toArray := by
    intro l
    induction l with
    | nil =>
      intro p a hp
      have : a.toList.take p = a.toList := List.take_of_length_le (by simp at hp ⊢; omega)
      simp [putCells, this]
    | cons u l ih =>
      intro p a hp
      simp only [List.length_cons] at hp
      rw [putCells, ih (p + 1) _ (by simp; omega), Array.toList_setIfInBounds, take_set_succ _ _ _ (by simp; omega)]
      simp
  exact AS.storeA hx.out hy.out (by simpa using hn) (by simpa using hv.out) h1 (by omega) (by rw [key _ _ _ (by simpa using h2)]; simpa [h3] using h)
theorem call {f : Nat} {args : List Operand} {fst cap us vs as : List Value} {ts : Array TypeId} [Fn P f] [hx : Ev tm x (.func (.func f) fst.toArray cap.toArray)] [ha : Evs tm args us] [h1 : Cat us cap vs] [h2 : Cat fst vs as] [hp : Pt tm d F]
    (h : AC P f as M H fun v M' H' => K (F v) M' H') : AS P ro ⟨some d, .call ⟨.value x, args.toArray, ts⟩, ty, pos, aft, gd⟩ tm M H K :=
  AS.call hx.out (by rw [show args.toArray.toList = args from rfl, ha.out, List.append_assoc, show cap.toArray.toList = cap from rfl, h1.out]; exact h2.out) (h.mono fun v M' H' _ hk => by show K (tm.set d v) M' H'; rw [hp.out]; exact hk)
theorem subK {o : Oper} (h : AS P ro o tm M H (fun tm M' H' => ∃ H'', List.Sublist H'' H' ∧ K tm M' H'')) : AS P ro o tm M H K := fun g w hS =>
  opIn_mono (fun a w ⟨tm, M', H', h1, h2, h3, H'', hs, h4⟩ => ⟨tm, M', H'', h1, h2, h3.sub hs, h4⟩) (fun _ _ _ h => h) (h g w hS)
/-- append of a literal of one element, that lies first. -/
theorem app1 {A : Option Addr} {n c E z b g cc : Nat} {vs us : List Value} [hx : Ev tm x (.slice A n c)] [hy : Ev tm y (.slice (some ⟨g, 0, none⟩) 1 cc)] [Ap P T E z b] [h1 : Ones us] [hp : Pt tm d F] (r : Nat)
    (hr : H[r]? = some (.row A n c E z vs)) (hu : us.length = z) (hl : (n + 1) * b ≤ 140737488355328) (hl2 : n + 1 ≤ 9223372036854775807)
    (h : ∀ A' c', K (F (.slice A' (n + 1) c')) M (H.set r (.row A' (n + 1) c' E z (vs ++ us)))) : AS P ro ⟨some d, .call ⟨.builtin .append, #[x, y], #[T, T]⟩, ty, pos, aft, gd⟩ tm M (.blk g (.cells us.toArray E (0, 0)) :: H) K := by
  refine subK (AS.append (r := r + 1) (us := us) hx.out hy.out (by simpa using hr) (by omega) (?_ : Cels M _ g 0 us) h1.out hl hl2 fun A' c' => ?_)
  · have key : ∀ (l : List Value) (p : Nat), (∀ j v, l[j]? = some v → us[p + j]? = some v) → Cels M (.blk g (.cells us.toArray E (0, 0)) :: H) g p l := by
      intro l
      induction l with
      | nil => intro p _; trivial
      | cons u l ih =>
        intro p h
        refine ⟨.at 0 rfl (by have := h 0 u rfl; simpa using this), ih (p + 1) fun j v hj => ?_⟩
        have := h (j + 1) v (by simpa using hj)
        rwa [show p + (j + 1) = p + 1 + j by omega] at this
    exact key us 0 (fun j v h => by simpa using h)
  · refine ⟨_, List.sublist_cons_self .., ?_⟩
    show K (tm.set d _) M _
    rw [hp.out]
    exact h A' c'
theorem lit1 {E z b : Nat} {us : List Value} [hx : Ev tm x v] [hu : Cl v us] [Ap P T E z b] [hp : Pt tm d F] (hn : us.length = z) (hz : z ≤ 16777216)
    (h : ∀ g, K (F (.slice (some ⟨g, 0, none⟩) 1 1)) M (.blk g (.cells us.toArray E (0, 0)) :: H)) : AS P ro ⟨some d, .buildSlice T 1 (List.toArray [(0, x)]), ty, pos, aft, gd⟩ tm M H K :=
  AS.lit1 hx.out (by rw [hu.out]) hn hz fun g => by show K (tm.set d _) M _; rw [hp.out]; exact h g
theorem make {n E z b : Nat} {zv : Value} [hx : Ev tm x (.int k n)] [hy : Ev tm y (.int k' n)] [Ap P T E z b] [Zr P E zv] [hp : Pt tm d F] (hl : b * n ≤ 281474976710656) (hl2 : n ≤ 9223372036854775807)
    (h : ∀ g, K (F (.slice (some ⟨g, 0, none⟩) n n)) M (.row (some ⟨g, 0, none⟩) n n E z (madeCells zv.cells (n * z)).toList :: H)) : AS P ro ⟨some d, .makeSlice T x y, ty, pos, aft, gd⟩ tm M H K :=
  AS.makeSlice hx.out hy.out hl hl2 fun g => by show K (tm.set d _) M _; rw [hp.out]; exact h g
end S
end
/-- What a bool says. -/
class BP (b v : Bool) (p : outParam Prop) : Prop where out : b = v → p
instance (priority := low) {b v : Bool} : BP b v (b = v) := ⟨id⟩
instance {p : Prop} [Decidable p] : BP (decide p) true p := ⟨of_decide_eq_true⟩
instance {p : Prop} [Decidable p] : BP (decide p) false (¬ p) := ⟨of_decide_eq_false⟩
instance {b : Bool} {p : Prop} [h : BP b false p] : BP (!b) true p := ⟨fun e => h.out (by simpa using e)⟩
instance {b : Bool} {p : Prop} [h : BP b true p] : BP (!b) false p := ⟨fun e => h.out (by simpa using e)⟩
instance : BP true false False := ⟨by simp⟩
instance : BP false true False := ⟨by simp⟩
theorem bp {b v : Bool} {p : Prop} [k : BP b v p] (h : b = v) : p := k.out h
/-! ### Guards in a region of one order; control -/
section
variable {P : Program} {ro : RO} {ops : Array Oper} {Q : Post} {rest : List Oper} {tm : Tm} {F : Value → Tm} {M : Mem} {H : Heap} {d : Nat} {ty : TypeId} {pos : String} {aft : Array Edge} {op : Op} {dd : Option Tmp}
theorem yl0 {j : Nat} {b : Bool} {tj : Nat} (hj : (ops[j]?).bind (·.dst) = some tj) (hg : tm.getD tj undef = .bool b) : yielded ops tm.toArray j = some b := by
  unfold yielded
  rw [hj]
  have h2 : tm[tj]?.getD undef = .bool b := by simpa using hg
  cases h3 : tm[tj]? with
  | none => rw [h3] at h2; simp [undef] at h2
  | some u => rw [h3] at h2; simp at h2; subst h2; simp [h3]
theorem on {j : Nat} {w b : Bool} {tj : Nat} (hj : (ops[j]?).bind (·.dst) = some tj) [hg : Gt tm tj (.bool b)] (hb : b = w) (h : AO P ro ops Q (⟨dd, op, ty, pos, aft, none⟩ :: rest) tm M H) : AO P ro ops Q (⟨dd, op, ty, pos, aft, some (j, w)⟩ :: rest) tm M H :=
  AO.on (by rw [yl0 hj hg.out, hb]) h
theorem off {j : Nat} {w b : Bool} {tj : Nat} (hj : (ops[j]?).bind (·.dst) = some tj) [hg : Gt tm tj (.bool b)] (hb : b = !w) [hp : Pt tm d F] (h : AO P ro ops Q rest (F undef) M H) : AO P ro ops Q (⟨some d, op, ty, pos, aft, some (j, w)⟩ :: rest) tm M H :=
  AO.off (b := b) (yl0 hj hg.out) (by subst hb; cases w <;> decide) (by show AO P ro ops Q rest (tm.set d undef) M H; rw [hp.out]; exact h)
theorem ylU {j : Nat} {tj : Nat} (hj : (ops[j]?).bind (·.dst) = some tj) (hg : tm.getD tj undef = undef) : yielded ops tm.toArray j = none := by
  unfold yielded
  rw [hj]
  have h2 : tm[tj]?.getD undef = undef := by simpa using hg
  cases h3 : tm[tj]? with
  | none => simp [h3]
  | some u => rw [h3] at h2; simp at h2; subst h2; simp [h3, undef]
theorem offU {j : Nat} {w : Bool} {tj : Nat} (hj : (ops[j]?).bind (·.dst) = some tj) [hg : Gt tm tj undef] [hp : Pt tm d F] (h : AO P ro ops Q rest (F undef) M H) : AO P ro ops Q (⟨some d, op, ty, pos, aft, some (j, w)⟩ :: rest) tm M H :=
  AO.offU (ylU hj hg.out) (by show AO P ro ops Q rest (tm.set d undef) M H; rw [hp.out]; exact h)
/-- Both ways of a guard. -/
theorem onoff {j : Nat} {w b : Bool} {tj : Nat} (w' : Bool) (hw : (!w) = w') (hj : (ops[j]?).bind (·.dst) = some tj) [hg : Gt tm tj (.bool b)] [hp : Pt tm d F] (h1 : b = w → AO P ro ops Q (⟨some d, op, ty, pos, aft, none⟩ :: rest) tm M H) (h2 : b = w' → AO P ro ops Q rest (F undef) M H) : AO P ro ops Q (⟨some d, op, ty, pos, aft, some (j, w)⟩ :: rest) tm M H := by
  by_cases hb : b = w
  · exact on hj hb (h1 hb)
  · have hb' : b = !w := by cases b <;> cases w <;> simp_all
    exact off hj hb' (h2 (hb'.trans hw))
theorem AW.cut {x y : Code} (mid : Tm → Mem → Heap → Prop) (h1 : AW P ro x (thn mid Q) tm M H) (h2 : ∀ tm' M' H', M.le M' → mid tm' M' H' → AW P ro y Q tm' M' H') : AW P ro (.seq x y) Q tm M H :=
  AW.seq (h1.mono fun e tm' M' H' hM hq => by
    cases e with
    | normal => exact h2 tm' M' H' hM hq
    | _ => exact hq)
/-- A test's bool is told apart. -/
theorem cond {c : Operand} {x y : Code} {t : Bool} [hc : Ev tm c (.bool t)] (ht : t = true → AW P ro x Q tm M H) (hf : t = false → AW P ro y Q tm M H) : AW P ro (.cond c x y) Q tm M H := AW.cond hc.out ht hf
theorem inb_exit {id : Nat} (h : Q .normal tm M H) : inb id Q (.exit id) tm M H := by show (if id = id then Q .normal else Q (.exit id)) tm M H; rw [if_pos rfl]; exact h
theorem inb_other {id i : Nat} (hn : i ≠ id) (h : Q (.exit i) tm M H) : inb id Q (.exit i) tm M H := by show (if i = id then Q .normal else Q (.exit i)) tm M H; rw [if_neg hn]; exact h
theorem thn_exit {id : Nat} {K : Tm → Mem → Heap → Prop} (h : Q (.exit id) tm M H) : thn K Q (.exit id) tm M H := h
theorem thn_normal {K : Tm → Mem → Heap → Prop} (h : K tm M H) : thn K Q .normal tm M H := h
theorem thn_ret {K : Tm → Mem → Heap → Prop} (h : Q .ret tm M H) : thn K Q .ret tm M H := h
theorem inb_ret {id : Nat} (h : Q .ret tm M H) : inb id Q .ret tm M H := h
theorem inb_normal {id : Nat} (h : Q .normal tm M H) : inb id Q .normal tm M H := h
theorem fin {fn : Func} {R : Value → Mem → Heap → Prop} {v : Value} (hr : Res P fn tm M H v) (h : ∃ H3, List.Sublist H3 H ∧ R v M H3) : bodyP P fn R .ret tm M H := ⟨v, hr, h⟩
theorem fin0 {fn : Func} {R : Value → Mem → Heap → Prop} {v : Value} (hr : Res P fn tm M H v) (h : ∃ H3, List.Sublist H3 H ∧ R v M H3) : bodyP P fn R .normal tm M H := ⟨v, hr, h⟩
theorem Res.i1 {fn : Func} {t : Nat} {v : Value} (h : fn.results = #[.tmp t]) [hg : Gt tm t v] : Res P fn tm M H v := by rw [← hg.out]; exact Res.one h
theorem Res.i2 {fn : Func} {t u : Nat} {v v' : Value} (h : fn.results = #[.tmp t, .tmp u]) [hg : Gt tm t v] [hg' : Gt tm u v'] : Res P fn tm M H (.tuple #[v, v']) := by rw [← hg.out, ← hg'.out]; exact Res.two h
theorem Res.i3 {fn : Func} {t u q : Nat} {v v' v2 : Value} (h : fn.results = #[.tmp t, .tmp u, .tmp q]) [hg : Gt tm t v] [hg' : Gt tm u v'] [hg2 : Gt tm q v2] : Res P fn tm M H (.tuple #[v, v', v2]) := fun g w _ => by
  have e1 := hg.out; have e2 := hg'.out; have e3 := hg2.out
  simp [results, h, ← e1, ← e2, ← e3]
theorem Res.ic {fn : Func} {t T b n : Nat} {vs : List Value} (h : fn.results = #[.cell t T]) [Ag P T n] [hg : Gt tm t (.pointer (some ⟨b, 0, none⟩))] [hc : Cgs M H b 0 n vs] : Res P fn tm M H (.agg vs.toArray) := Res.celA h hg.out hc.out.2 hc.out.1
theorem Res.ic2 {fn : Func} {t T b n u : Nat} {v : Value} {vs : List Value} (h : fn.results = #[.cell t T, .tmp u]) [Ag P T n] [hg : Gt tm t (.pointer (some ⟨b, 0, none⟩))] [hg' : Gt tm u v] [hc : Cgs M H b 0 n vs] : Res P fn tm M H (.tuple #[.agg vs.toArray, v]) := by rw [← hg'.out]; exact Res.celA2 h hg.out hc.out.2 hc.out.1
/-- For all values of some slots. -/
def Forall : Nat → (List Value → Prop) → Prop
  | 0, p => p []
  | n + 1, p => ∀ v, Forall n fun vs => p (v :: vs)
theorem Forall.get : ∀ {n : Nat} {p : List Value → Prop}, Forall n p → ∀ us, us.length = n → p us
  | 0, p, h, us, hl => by have := List.eq_nil_of_length_eq_zero hl; subst this; exact h
  | n + 1, p, h, [], hl => by simp at hl
  | n + 1, p, h, u :: us, hl => Forall.get (h u) us (by simpa using hl)
def setAll (tm : Tm) : List Nat → List Value → Tm
  | w :: ws, u :: us => setAll (tm.set w u) ws us
  | _, _ => tm
class Sa (tm : Tm) (W : List Nat) (us : List Value) (tm' : outParam Tm) : Prop where out : setAll tm W us = tm'
instance {tm : Tm} : Sa tm [] [] tm := ⟨rfl⟩
instance {tm tm' : Tm} {w : Nat} {ws : List Nat} {u : Value} {us : List Value} {F : Value → Tm} [hp : Pt tm w F] [h : Sa (F u) ws us tm'] : Sa tm (w :: ws) (u :: us) tm' := ⟨by rw [setAll, hp.out]; exact h.out⟩
class Gts (tm : Tm) (L : List Nat) (vs : outParam (List Value)) : Prop where out : (L.map fun i => tm.getD i undef) = vs
instance {tm : Tm} : Gts tm [] [] := ⟨rfl⟩
instance {tm : Tm} {i : Nat} {L : List Nat} {v : Value} {vs : List Value} [h : Gt tm i v] [hs : Gts tm L vs] : Gts tm (i :: L) (v :: vs) := ⟨by rw [List.map_cons, h.out, hs.out]⟩
theorem set_self (tm : Tm) (i : Nat) : tm.set i (tm.getD i undef) = tm := by
  induction tm generalizing i with
  | nil => rfl
  | cons x l ih => cases i with
    | zero => rfl
    | succ i => simp only [List.set_cons_succ, List.getD_cons_succ]; rw [ih]
theorem setAll_self (tm : Tm) : ∀ W : List Nat, setAll tm W (W.map fun i => tm.getD i undef) = tm
  | [] => rfl
  | w :: ws => by rw [List.map_cons, setAll, set_self]; exact setAll_self tm ws
/-- The slots of W may turn in a round; L are those that matter at its head. -/
def LI (tm : Tm) (W L : List Nat) (I : Nat → List Value → Mem → Heap → Prop) (n : Nat) (tm' : Tm) (M : Mem) (H : Heap) : Prop := ∃ us vs, us.length = W.length ∧ vs.length = L.length ∧ tm' = setAll (setAll tm W us) L vs ∧ I n vs M H
theorem AW.loopL {c : Code} {vs0 : List Value} (L W : List Nat) (I : Nat → List Value → Mem → Heap → Prop) (n : Nat) [hg : Gts tm L vs0] (h0 : I n vs0 M H)
    (round : ∀ n M' H', Le M M' → Forall L.length fun vs => I n vs M' H' → Forall W.length fun us => AW P ro c (thn (fun tm' M'' H'' => ∃ k, k < n ∧ ∃ H3, List.Sublist H3 H'' ∧ LI tm W L I k tm' M'' H3) Q) (setAll (setAll tm W us) L vs) M' H') : AW P ro (.loop c) Q tm M H :=
  AW.loop (LI tm W L I) n ⟨W.map fun i => tm.getD i undef, vs0, by simp, by rw [← hg.out]; simp, by rw [setAll_self, ← hg.out, setAll_self], h0⟩ fun n tm' M' H' hM hI => by
    obtain ⟨us, vs, hl, hv, rfl, hI⟩ := hI
    have h := ((round n M' H' ⟨hM⟩).get vs hv hI).get us hl
    intro g w hS
    refine wpIn_mono (h g w hS) fun e a w' hl' => ?_
    obtain ⟨ds2, tm2, M2, H2, h0', h1, h2, h3, h4⟩ := hl'
    cases e with
    | normal => obtain ⟨k, hk, H3, hs, hLI⟩ := h4; exact ⟨ds2, tm2, M2, H3, h0', h1, h2, h3.sub hs, k, hk, hLI⟩
    | _ => exact ⟨ds2, tm2, M2, H2, h0', h1, h2, h3, h4⟩
theorem sa {c : Code} {W L : List Nat} {us vs : List Value} {tm1 tm2 : Tm} [h1 : Sa tm W us tm1] [h2 : Sa tm1 L vs tm2] (h : AW P ro c Q tm2 M H) : AW P ro c Q (setAll (setAll tm W us) L vs) M H := by rw [h1.out, h2.out]; exact h
theorem rnd {n : Nat} {W L : List Nat} {I : Nat → List Value → Mem → Heap → Prop} {tm0 tm1 : Tm} {vs us : List Value} [hg : Gts tm L vs] [hu : Gts tm W us] [h1 : Sa tm0 W us tm1] [h2 : Sa tm1 L vs tm] (k : Nat) (H3 : Heap) (hk : k < n) (hs : List.Sublist H3 H) (hI : I k vs M H3) : ∃ k, k < n ∧ ∃ H3, List.Sublist H3 H ∧ LI tm0 W L I k tm M H3 :=
  ⟨k, hk, H3, hs, us, vs, by rw [← hu.out]; simp, by rw [← hg.out]; simp, by rw [h1.out, h2.out], hI⟩
/-- The ways meet again: what is known behind x. -/
theorem AW.cutL {x y : Code} (L W : List Nat) (J : List Value → Mem → Heap → Prop) (h1 : AW P ro x (thn (fun tm' M' H' => ∃ H3, List.Sublist H3 H' ∧ LI tm W L (fun _ => J) 0 tm' M' H3) Q) tm M H)
    (h2 : ∀ M' H', Le M M' → Forall L.length fun vs => J vs M' H' → Forall W.length fun us => AW P ro y Q (setAll (setAll tm W us) L vs) M' H') : AW P ro (.seq x y) Q tm M H :=
  AW.cut _ h1 fun tm' M' H' hM hh => by
    obtain ⟨H3, hs, us, vs, hl, hv, rfl, hI⟩ := hh
    exact AW.drop hs (((h2 M' H3 ⟨hM⟩).get vs hv hI).get us hl)
theorem met {W L : List Nat} {J : List Value → Mem → Heap → Prop} {tm0 tm1 : Tm} {vs us : List Value} [hg : Gts tm L vs] [hu : Gts tm W us] [h1 : Sa tm0 W us tm1] [h2 : Sa tm1 L vs tm] (H3 : Heap) (hs : List.Sublist H3 H) (hI : J vs M H3) : ∃ H3, List.Sublist H3 H ∧ LI tm0 W L (fun _ => J) 0 tm M H3 :=
  ⟨H3, hs, us, vs, by rw [← hu.out]; simp, by rw [← hg.out]; simp, by rw [h1.out, h2.out], hI⟩
end
/-! ### Regions whose order is open -/
section
variable {P : Program} {ro : RO} {ops : Array Oper} {m : Bool} {QT : Tm → Mem → Heap → Prop} {tm : Tm} {F : Value → Tm} {M : Mem} {H : Heap} {i d : Nat} {l : List Nat} {op : Op} {ty : TypeId} {pos : String} {aft : Array Edge} {v : Value} {dd : Option Tmp}
namespace D
theorem yl {j : Nat} {b : Bool} {tj : Nat} (hj : (ops[j]?).bind (·.dst) = some tj) (hg : tm.getD tj undef = .bool b) : yielded ops tm.toArray j = some b := by
  unfold yielded
  rw [hj]
  have h2 : tm[tj]?.getD undef = .bool b := by simpa using hg
  cases h3 : tm[tj]? with
  | none => rw [h3] at h2; simp [undef] at h2
  | some u => rw [h3] at h2; simp at h2; subst h2; simp [h3]
theorem p (ho : ops[i]? = some ⟨some d, op, ty, pos, aft, none⟩) (hn : isEv op = false) (hv : PVM P ⟨some d, op, ty, pos, aft, none⟩ tm M v) [hp : Pt tm d F] (h : AT P ro ops m QT l (F v) M H) : AT P ro ops m QT (i :: l) tm M H := by
  unfold AT
  simp only [ho, hn, Bool.false_eq_true, if_false]
  refine ⟨v, .inl ⟨rfl, by cases m; exact hv.h; exact hv⟩, ?_⟩
  show AT P ro ops m QT l (tm.set d v) M H
  rw [hp.out]; exact h
theorem q (ho : ops[i]? = some ⟨some d, op, ty, pos, aft, none⟩) (hn : isEv op = false) (hv : PVH P ⟨some d, op, ty, pos, aft, none⟩ tm M H v) [hp : Pt tm d F] (h : AT P ro ops false QT l (F v) M H) : AT P ro ops false QT (i :: l) tm M H := by
  unfold AT
  simp only [ho, hn, Bool.false_eq_true, if_false]
  refine ⟨v, .inl ⟨rfl, by simpa using hv⟩, ?_⟩
  show AT P ro ops false QT l (tm.set d v) M H
  rw [hp.out]; exact h
theorem e (ho : ops[i]? = some ⟨dd, op, ty, pos, aft, none⟩) (hn : isEv op = true) (h : AS P ro ⟨dd, op, ty, pos, aft, none⟩ tm M H (AT P ro ops m QT l)) : AT P ro ops m QT (i :: l) tm M H := by
  unfold AT
  simp only [ho, hn, if_true]
  unfold ST
  rw [if_pos (show Region.wanted _ _ = true from rfl)]
  exact h
theorem pOn {j : Nat} {w b : Bool} {tj : Nat} (ho : ops[i]? = some ⟨some d, op, ty, pos, aft, some (j, w)⟩) (hj : (ops[j]?).bind (·.dst) = some tj) [hg : Gt tm tj (.bool b)] (hb : b = w) (hn : isEv op = false) (hv : PVM P ⟨some d, op, ty, pos, aft, some (j, w)⟩ tm M v) [hp : Pt tm d F] (h : AT P ro ops m QT l (F v) M H) : AT P ro ops m QT (i :: l) tm M H := by
  unfold AT
  simp only [ho, hn, Bool.false_eq_true, if_false]
  refine ⟨v, .inl ⟨?_, by cases m; exact hv.h; exact hv⟩, ?_⟩
  · subst hb
    simp only [Region.wanted, yl hj hg.out]
    simp
  · show AT P ro ops m QT l (tm.set d v) M H
    rw [hp.out]; exact h
theorem off {j : Nat} {w b : Bool} {tj : Nat} (ho : ops[i]? = some ⟨some d, op, ty, pos, aft, some (j, w)⟩) (hj : (ops[j]?).bind (·.dst) = some tj) [hg : Gt tm tj (.bool b)] (hb : b ≠ w) [hp : Pt tm d F] (h : AT P ro ops m QT l (F undef) M H) : AT P ro ops m QT (i :: l) tm M H := by
  have hw : Region.wanted ⟨some d, op, ty, pos, aft, some (j, w)⟩ (yielded ops tm.toArray) = false := by
    simp only [Region.wanted, yl hj hg.out]
    simp [hb]
  have h' : AT P ro ops m QT l (tm.set d undef) M H := by rw [hp.out]; exact h
  unfold AT
  simp only [ho]
  split
  · unfold ST; rw [hw]; exact h'
  · exact ⟨undef, .inr ⟨hw, rfl⟩, h'⟩
theorem offU {j : Nat} {w : Bool} {tj : Nat} (ho : ops[i]? = some ⟨some d, op, ty, pos, aft, some (j, w)⟩) (hj : (ops[j]?).bind (·.dst) = some tj) [hg : Gt tm tj undef] [hp : Pt tm d F] (h : AT P ro ops m QT l (F undef) M H) : AT P ro ops m QT (i :: l) tm M H := by
  have hw : Region.wanted ⟨some d, op, ty, pos, aft, some (j, w)⟩ (yielded ops tm.toArray) = false := by
    simp only [Region.wanted, ylU hj hg.out]
    simp
  have h' : AT P ro ops m QT l (tm.set d undef) M H := by rw [hp.out]; exact h
  unfold AT
  simp only [ho]
  split
  · unfold ST; rw [hw]; exact h'
  · exact ⟨undef, .inr ⟨hw, rfl⟩, h'⟩
theorem nl (h : QT tm M H) : AT P ro ops m QT [] tm M H := h
theorem onoff {b : Bool} (w w' : Bool) (hw : (!w) = w') (tj : Nat) [hg : Gt tm tj (.bool b)] (h1 : b = w → AT P ro ops m QT (i :: l) tm M H) (h2 : b = w' → AT P ro ops m QT (i :: l) tm M H) : AT P ro ops m QT (i :: l) tm M H := by
  by_cases hb : b = w
  · exact h1 hb
  · exact h2 (by subst hw; cases b <;> cases w <;> simp_all)
theorem qOn {j : Nat} {w b : Bool} {tj : Nat} (ho : ops[i]? = some ⟨some d, op, ty, pos, aft, some (j, w)⟩) (hj : (ops[j]?).bind (·.dst) = some tj) [hg : Gt tm tj (.bool b)] (hb : b = w) (hn : isEv op = false) (hv : PVH P ⟨some d, op, ty, pos, aft, some (j, w)⟩ tm M H v) [hp : Pt tm d F] (h : AT P ro ops false QT l (F v) M H) : AT P ro ops false QT (i :: l) tm M H := by
  unfold AT
  simp only [ho, hn, Bool.false_eq_true, if_false]
  refine ⟨v, .inl ⟨?_, by simpa using hv⟩, ?_⟩
  · subst hb
    simp only [Region.wanted, yl hj hg.out]
    simp
  · show AT P ro ops false QT l (tm.set d v) M H
    rw [hp.out]; exact h
theorem eOn {j : Nat} {w b : Bool} {tj : Nat} (ho : ops[i]? = some ⟨dd, op, ty, pos, aft, some (j, w)⟩) (hj : (ops[j]?).bind (·.dst) = some tj) [hg : Gt tm tj (.bool b)] (hb : b = w) (hn : isEv op = true) (h : AS P ro ⟨dd, op, ty, pos, aft, some (j, w)⟩ tm M H (AT P ro ops m QT l)) : AT P ro ops m QT (i :: l) tm M H := by
  unfold AT
  simp only [ho, hn, if_true]
  unfold ST
  rw [if_pos (by subst hb; simp only [Region.wanted, yl hj hg.out]; simp)]
  exact h
end D
end
end Go.Proofs.YtieaiheejhmbfaaGreatDoor.ML
/- The abstract layer: maps, rows that are written in place, rows that stay. No conditions. -/
namespace Go.Proofs.YtieaiheejhmbfaaGreatDoor.ML
open Go.RowKit
open Go.MapKept (IsKey findNow_spec run_findKey run_checkKey run_keyThatStays heap_set)
set_option linter.unusedVariables false
set_option linter.unusedSimpArgs false
/-! ### Maps -/
structure KL (P : Program) (kt : TypeId) (K : Value → Prop) : Prop where
  check : ∀ (w : World) (em : Bool) (v : Value), K v → (Instr.checkKey em 10000 kt v).run P w = .ok () w
  find : ∀ (w : World) (x : Value), K x → ∀ es : List MapEntry, (∀ e ∈ es, K e.key) →
    ((Instr.findKey kt x es).run P w = .ok none w ∧ ∀ e ∈ es, e.key ≠ x) ∨ ∃ j e, (Instr.findKey kt x es).run P w = .ok (some (j, e.val)) w ∧ es[j]? = some e ∧ e.key = x
  stays : ∀ (w : World) (v : Value), K v → (Instr.keyThatStays v v).run P w = .ok v w
theorem KL.key {P : Program} {kt : TypeId} {d : TypeDesc} (hd : P.underlying kt = some d) : KL P kt (IsKey d) where
  check w em v hv := run_checkKey hd hv em 9999
  find w x hx es hes := by
    rcases findNow_spec hx es 0 hes with ⟨h1, h2⟩ | ⟨j, e, h1, h2, h3⟩
    · exact .inl ⟨run_findKey hd h1, h2⟩
    · exact .inr ⟨j, e, by simpa using run_findKey hd h1, h2, h3⟩
  stays w v hv := run_keyThatStays hv
theorem Rep.empty {K : Value → Prop} : Rep K #[] (fun _ => none) := ⟨by simp, by simp, by simp, fun _ _ h => by cases h⟩
open Classical in
/-- The map with one key turned. -/
noncomputable def upd (m : Value → Option Value) (k v : Value) : Value → Option Value := fun x => if x = k then some v else m x
theorem upd_self (m : Value → Option Value) (k v : Value) : upd m k v k = some v := by simp [upd]
theorem upd_ne {m : Value → Option Value} {k v x : Value} (h : x ≠ k) : upd m k v x = m x := by simp [upd, h]
theorem Rep.none {K : Value → Prop} {es : Array MapEntry} {m : Value → Option Value} (h : Rep K es m) {k : Value} (hn : ∀ e ∈ es.toList, e.key ≠ k) : m k = Option.none := by
  cases hm : m k with
  | none => rfl
  | some v => obtain ⟨e, he, hk⟩ := h.dom k v hm; exact absurd hk (hn e he)
theorem Rep.push {K : Value → Prop} {es : Array MapEntry} {m : Value → Option Value} (h : Rep K es m) {k v : Value} {b : Nat} (hk : K k) (hn : ∀ e ∈ es.toList, e.key ≠ k) : Rep K (es.push ⟨k, v, b⟩) (upd m k v) where
  keys e he := by
    simp only [Array.toList_push, List.mem_append, List.mem_singleton] at he
    rcases he with he | rfl
    · exact h.keys e he
    · exact hk
  nd := by
    simp only [Array.toList_push, List.pairwise_append, List.pairwise_cons, List.Pairwise.nil, List.mem_singleton]
    exact ⟨h.nd, ⟨by simp, trivial⟩, fun a ha b hb => by subst hb; exact hn a ha⟩
  mem e he := by
    simp only [Array.toList_push, List.mem_append, List.mem_singleton] at he
    rcases he with he | rfl
    · rw [upd_ne (hn e he)]; exact h.mem e he
    · exact upd_self ..
  dom x u hu := by
    by_cases hx : x = k
    · subst hx; exact ⟨_, by simp only [Array.toList_push, List.mem_append, List.mem_singleton]; exact .inr rfl, rfl⟩
    · rw [upd_ne hx] at hu
      obtain ⟨e, he, hk'⟩ := h.dom x u hu
      exact ⟨e, by simp only [Array.toList_push, List.mem_append]; exact .inl he, hk'⟩
theorem Rep.modify {K : Value → Prop} {es : Array MapEntry} {m : Value → Option Value} (h : Rep K es m) {k v : Value} {j : Nat} {e0 : MapEntry} (hj : es[j]? = some e0) (hk : e0.key = k) : Rep K (es.modify j fun e => { e with key := k, val := v }) (upd m k v) := by
  have hjl : es.toList[j]? = some e0 := by simpa using hj
  have hK : K k := by rw [← hk]; exact h.keys e0 (List.mem_of_getElem? hjl)
  have hat : ∀ i, (es.modify j fun e => { e with key := k, val := v }).toList[i]? = if i = j then some ⟨k, v, e0.born⟩ else es.toList[i]? := fun i => by
    simp only [Array.getElem?_toList, Array.getElem?_modify]
    by_cases hi : i = j
    · subst hi; simp [hj]
    · simp [hi, Ne.symm hi]
  have hkeys : (es.modify j fun e => { e with key := k, val := v }).toList.map (·.key) = es.toList.map (·.key) := by
    apply List.ext_getElem?
    intro i
    simp only [List.getElem?_map, hat]
    by_cases hi : i = j
    · subst hi; rw [if_pos rfl, hjl]; simp [hk]
    · rw [if_neg hi]
  have hmem : ∀ e ∈ (es.modify j fun e => { e with key := k, val := v }).toList, (e = ⟨k, v, e0.born⟩) ∨ (e ∈ es.toList ∧ e.key ≠ k) := fun e he => by
    obtain ⟨i, hi⟩ := List.mem_iff_getElem?.1 he
    rw [hat] at hi
    split at hi
    · cases hi; exact .inl rfl
    · rename_i hij
      refine .inr ⟨List.mem_of_getElem? hi, fun hek => ?_⟩
      obtain ⟨hi1, hi2⟩ := List.getElem?_eq_some_iff.1 hi
      obtain ⟨hj1, hj2⟩ := List.getElem?_eq_some_iff.1 hjl
      rcases Nat.lt_or_gt_of_ne hij with hlt | hlt
      · exact List.pairwise_iff_getElem.1 h.nd i j hi1 hj1 hlt (by rw [hi2, hj2, hek, hk])
      · exact List.pairwise_iff_getElem.1 h.nd j i hj1 hi1 hlt (by rw [hi2, hj2, hek, hk])
  refine ⟨fun e he => ?_, ?_, fun e he => ?_, fun x u hu => ?_⟩
  · rcases hmem e he with rfl | ⟨he, _⟩
    · exact hK
    · exact h.keys e he
  · have := h.nd
    rw [← List.pairwise_map (f := fun e : MapEntry => e.key) (R := fun a b => a ≠ b)] at this ⊢
    rw [hkeys]; exact this
  · rcases hmem e he with rfl | ⟨he, hne⟩
    · exact upd_self ..
    · rw [upd_ne hne]; exact h.mem e he
  · by_cases hx : x = k
    · subst hx; exact ⟨⟨x, v, e0.born⟩, List.mem_of_getElem? (i := j) (by rw [hat, if_pos rfl]), rfl⟩
    · rw [upd_ne hx] at hu
      obtain ⟨e, he, hek⟩ := h.dom x u hu
      obtain ⟨i, hi⟩ := List.mem_iff_getElem?.1 he
      refine ⟨e, List.mem_of_getElem? (i := i) ?_, hek⟩
      rw [hat, if_neg]
      · exact hi
      · rintro rfl; rw [hjl] at hi; cases hi; exact hx (hek.symm.trans hk)
section
variable {P : Program} {ro : RO} {ops : Array Oper} {Q : Post} {rest : List Oper} {tm : Tm} {F : Value → Tm} {M : Mem} {H H' : Heap} {K : Tm → Mem → Heap → Prop} {gd : Option (Nat × Bool)}
variable {d : Nat} {ty : TypeId} {pos : String} {aft : Array Edge} {x y z : Operand} {T T' : TypeId} {k k' : IntKind} {v u : Value}
class Mp (P : Program) (T : TypeId) (kt et : outParam TypeId) (K : outParam (Value → Prop)) : Prop where
  out : P.underlying T = some (.map kt et)
  law : KL P kt K
class Mat (H : Heap) (b : Nat) (KK : outParam (Value → Prop)) (m : outParam (Value → Option Value)) : Prop where out : ∃ i : Nat, H[i]? = some (Ent.mp b KK m)
instance {b : Nat} {KK : Value → Prop} {m : Value → Option Value} : Mat (.mp b KK m :: H) b KK m := ⟨0, rfl⟩
instance (priority := low) {b : Nat} {KK : Value → Prop} {m : Value → Option Value} {e : Ent} [h : Mat H b KK m] : Mat (e :: H) b KK m := ⟨by obtain ⟨i, hi⟩ := h.out; exact ⟨i + 1, by simpa using hi⟩⟩
class Mpt (H : Heap) (b : Nat) (m' : Value → Option Value) (KK : outParam (Value → Prop)) (m : outParam (Value → Option Value)) (H' : outParam Heap) : Prop where out : ∃ i : Nat, H[i]? = some (Ent.mp b KK m) ∧ H.set i (Ent.mp b KK m') = H'
theorem AS.lookup {b : Nat} {kt et : TypeId} {KK : Value → Prop} {m : Value → Option Value} {key zv : Value} {ok : Bool} {dd : Option Tmp} [hT : Mp P T kt et KK] [hz : Zr P et zv] (hx : ev tm x = .map (some b)) (hy : ev tm y = key) (hK : KK key) (r : Nat) (hr : H[r]? = some (.mp b KK m))
    (h : K (putL tm dd (if ok then .tuple #[(m key).getD zv, .bool (m key).isSome] else (m key).getD zv)) M H) : AS P ro ⟨dd, .lookup T x y ok, ty, pos, aft, gd⟩ tm M H K :=
  AS.val rfl fun g w hS => by
    obtain ⟨es, clock, hb, R⟩ : ∃ es clock, w.heap[b]? = some (.map es clock) ∧ Rep KK es m := hS.own _ (List.mem_of_getElem? hr)
    refine ⟨_, w, M, H, ?_, .refl M, hS, h⟩
    simp only [execOp, hx, hy]
    refine run_v ?_
    rcases hT.law.find w key hK es.toList R.keys with ⟨h1, h2⟩ | ⟨j, e, h1, h2, h3⟩
    · simp [Instr.lookup, run_underlying hT.out, Go.MapKept.run_getObj_map hb, hT.law.check _ _ _ hK, h1, hz.run, R.none h2]
    · have hm : m key = some e.val := by rw [← h3]; exact R.mem e (List.mem_of_getElem? h2)
      simp [Instr.lookup, run_underlying hT.out, Go.MapKept.run_getObj_map hb, hT.law.check _ _ _ hK, h1, hm]
theorem run_mapUpdate {b : Nat} {kt et : TypeId} {KK : Value → Prop} {m : Value → Option Value} {key : Value} [hT : Mp P T kt et KK] (hK : KK key) {g : GW} {w : World} (hS : St g M (.mp b KK m :: H) w) :
    ∃ w', (Instr.mapUpdate T (.map (some b)) key v).run P w = .ok () w' ∧ St g M (.mp b KK (upd m key v) :: H) w' := by
  obtain ⟨es, clock, hb, R⟩ : ∃ es clock, w.heap[b]? = some (.map es clock) ∧ Rep KK es m := hS.own _ (List.mem_cons_self ..)
  have key' : ∀ (es' : Array MapEntry) (c' : Nat), Rep KK es' (upd m key v) → St g M (.mp b KK (upd m key v) :: H) { w with heap := w.heap.setIfInBounds b (.map es' c') } := fun es' c' hR => by
    refine St.turn (E := [.mp b KK m]) (.mp b KK (upd m key v)) hS rfl rfl rfl (by simp) ⟨es', c', (heap_set hb).1, hR⟩ (fun k' hk' hne => (heap_set hb).2 k' ?_) (fun k' hk' => .inl (by simpa [fps, Ent.fp] using hk')) (by simp [Ent.fp])
    intro e; subst e; exact hne (by simp [fps, Ent.fp])
  rcases hT.law.find w key hK es.toList R.keys with ⟨h1, h2⟩ | ⟨j, e, h1, h2, h3⟩
  · refine ⟨_, ?_, key' _ (clock + 1) (R.push (b := clock) hK h2)⟩
    simp [Instr.mapUpdate, run_underlying hT.out, Go.MapKept.run_getObj_map hb, hT.law.check _ _ _ hK, h1, Go.MapKept.run_setObj_map _ hb]
  · have hj : es[j]? = some e := by simpa using h2
    refine ⟨_, ?_, key' _ clock (R.modify hj h3)⟩
    simp [Instr.mapUpdate, run_underlying hT.out, Go.MapKept.run_getObj_map hb, hT.law.check _ _ _ hK, h1, hj, h3, hT.law.stays _ _ hK, Go.MapKept.run_setObj_map _ hb]
theorem AS.mapUpdate {b : Nat} {kt et : TypeId} {KK : Value → Prop} {m : Value → Option Value} {key : Value} [hT : Mp P T kt et KK] (hx : ev tm x = .map (some b)) (hy : ev tm y = key) (hz : ev tm z = v) (hK : KK key) (r : Nat) (hr : H[r]? = some (.mp b KK m))
    (h : K tm M (H.set r (.mp b KK (upd m key v)))) : AS P ro ⟨none, .mapUpdate T x y z, ty, pos, aft, gd⟩ tm M H K :=
  AS.skipv rfl rfl fun g w hS => by
    obtain ⟨w', h1, h2⟩ := run_mapUpdate (T := T) (v := v) (P := P) hK (hS.at hr)
    refine ⟨w', M, _, ?_, .refl M, St.back (List.getElem?_eq_some_iff.1 hr).1 h2, h⟩
    simp only [execOp, hx, hy, hz]
    simp [h1]
theorem AS.insert {b : Nat} {kt et : TypeId} {KK : Value → Prop} {m : Value → Option Value} {key : Value} [hT : Mp P T kt et KK] (hx : ev tm x = .map (some b)) (hy : ev tm y = key) (hz : ev tm z = v) (hK : KK key) (r : Nat) (hr : H[r]? = some (.mp b KK m))
    (h : K tm M (H.set r (.mp b KK (upd m key v)))) : AS P ro ⟨none, .insert T x y z, ty, pos, aft, gd⟩ tm M H K :=
  AS.skipv rfl rfl fun g w hS => by
    obtain ⟨w', h1, h2⟩ := run_mapUpdate (T := T) (v := v) (P := P) hK (hS.at hr)
    refine ⟨w', M, _, ?_, .refl M, St.back (List.getElem?_eq_some_iff.1 hr).1 h2, h⟩
    simp only [execOp, hx, hy, hz]
    simp [h1]
namespace S
theorem makeMap {kt et : TypeId} {KK : Value → Prop} [hT : Mp P T kt et KK] [hp : Pt tm d F] (h : ∀ b, K (F (.map (some b))) M (.mp b KK (fun _ => none) :: H)) : AS P ro ⟨some d, .makeMap T none, ty, pos, aft, gd⟩ tm M H K :=
  AS.val rfl fun g w hS => by
    refine ⟨.map (some w.heap.size), w.alloc (.map #[] 0), M, .mp w.heap.size KK (fun _ => none) :: H, ?_, .refl M, ?_, ?_⟩
    · simp only [execOp]; exact run_v rfl
    · exact St.turn (E := []) _ hS rfl rfl rfl (by simp) ⟨#[], 0, World.alloc_heap_new w _, Rep.empty⟩ (fun k hk _ => Below.heap_alloc w _ k hk) (fun k hk => by simp [Ent.fp] at hk; subst hk; exact .inr (Nat.le_refl _)) (by simp [Ent.fp])
    · show K (tm.set d _) M _; rw [hp.out]; exact h _
/-- v, ok := m[k] -/
theorem look2 {b : Nat} {kt et : TypeId} {KK : Value → Prop} {m : Value → Option Value} {key zv : Value} [hT : Mp P T kt et KK] [hz : Zr P et zv] [hx : Ev tm x (.map (some b))] [hy : Ev tm y key] [hp : Pt tm d F] [hr : Mat H b KK m] (hK : KK key)
    (h : K (F (.tuple #[(m key).getD zv, .bool (m key).isSome])) M H) : AS P ro ⟨some d, .lookup T x y true, ty, pos, aft, gd⟩ tm M H K := by
  obtain ⟨r, hr⟩ := hr.out
  exact AS.lookup (ok := true) hx.out hy.out hK r hr (by show K (tm.set d _) M H; rw [hp.out]; exact h)
theorem look {b : Nat} {kt et : TypeId} {KK : Value → Prop} {m : Value → Option Value} {key zv : Value} [hT : Mp P T kt et KK] [hz : Zr P et zv] [hx : Ev tm x (.map (some b))] [hy : Ev tm y key] [hp : Pt tm d F] [hr : Mat H b KK m] (hK : KK key)
    (h : K (F ((m key).getD zv)) M H) : AS P ro ⟨some d, .lookup T x y false, ty, pos, aft, gd⟩ tm M H K := by
  obtain ⟨r, hr⟩ := hr.out
  exact AS.lookup (ok := false) hx.out hy.out hK r hr (by show K (tm.set d _) M H; rw [hp.out]; exact h)
end S
instance {b : Nat} {KK : Value → Prop} {m m' : Value → Option Value} : Mpt (.mp b KK m :: H) b m' KK m (.mp b KK m' :: H) := ⟨0, rfl, rfl⟩
instance (priority := low) {b : Nat} {KK : Value → Prop} {m m' : Value → Option Value} {e : Ent} [h : Mpt H b m' KK m H'] : Mpt (e :: H) b m' KK m (e :: H') := ⟨by obtain ⟨i, hi, he⟩ := h.out; exact ⟨i + 1, by simpa using hi, by rw [← he]; rfl⟩⟩
namespace S
theorem mapUpdate {b : Nat} {kt et : TypeId} {KK : Value → Prop} {m : Value → Option Value} {key : Value} [hT : Mp P T kt et KK] [hx : Ev tm x (.map (some b))] [hy : Ev tm y key] [hz : Ev tm z v] [hr0 : Mat H b KK m] [hr : Mpt H b (upd m key v) KK m H'] (hK : KK key)
    (h : K tm M H') : AS P ro ⟨none, .mapUpdate T x y z, ty, pos, aft, gd⟩ tm M H K := by
  obtain ⟨r, hr, he⟩ := hr.out
  exact AS.mapUpdate hx.out hy.out hz.out hK r hr (by rw [he]; exact h)
theorem insert {b : Nat} {kt et : TypeId} {KK : Value → Prop} {m : Value → Option Value} {key : Value} [hT : Mp P T kt et KK] [hx : Ev tm x (.map (some b))] [hy : Ev tm y key] [hz : Ev tm z v] [hr0 : Mat H b KK m] [hr : Mpt H b (upd m key v) KK m H'] (hK : KK key)
    (h : K tm M H') : AS P ro ⟨none, .insert T x y z, ty, pos, aft, gd⟩ tm M H K := by
  obtain ⟨r, hr, he⟩ := hr.out
  exact AS.insert hx.out hy.out hz.out hK r hr (by rw [he]; exact h)
end S
/-! ### Rows -/
theorem AW.fact {c : Code} (X : Prop) (hX : ∀ g w, St g M H w → X) (h : X → AW P ro c Q tm M H) : AW P ro c Q tm M H := fun g w hS => h (hX g w hS) g w hS
theorem AO.fact {l : List Oper} (X : Prop) (hX : ∀ g w, St g M H w → X) (h : X → AO P ro ops Q l tm M H) : AO P ro ops Q l tm M H := fun g w hS => h (hX g w hS) g w hS
theorem AC.fact {f : Nat} {as : List Value} {R : Value → Mem → Heap → Prop} (X : Prop) (hX : ∀ g w, St g M H w → X) (h : X → AC P f as M H R) : AC P f as M H R := fun g w hS => h (hX g w hS) g w hS
theorem St.rowA {g : GW} {w : World} {A : Option Addr} {n c T z : Nat} {vs : List Value} (hS : St g M H w) (r : Nat) (hr : H[r]? = some (.row A n c T z vs)) : vs.length = n * z ∧ n ≤ c ∧ c ≤ maxLen ∧ (0 < n → ∃ b, A = some ⟨b, 0, none⟩) := by
  obtain ⟨hl, ⟨e, rfl⟩ | ⟨b, cap, cur, e, _, _, h1, h2, _⟩⟩ := hS.own _ (List.mem_of_getElem? hr)
  · cases e; exact ⟨hl, Nat.zero_le _, Nat.zero_le _, fun h => absurd h (Nat.lt_irrefl _)⟩
  · cases e; exact ⟨hl, h1, h2, fun _ => ⟨b, rfl⟩⟩
/-- A load of an own row's cell. -/
theorem V.lr {b off n c E zz : Nat} {vs : List Value} {dd : Option Tmp} [Sc P T] [hx : Ev tm x (.pointer (some ⟨b, off, none⟩))] (r : Nat) (hr : H[r]? = some (.row (some ⟨b, 0, none⟩) n c E zz vs)) (hv : vs[off]? = some v) : PVH P ⟨dd, .load T x, ty, pos, aft, gd⟩ tm M H v := PH.load hx.out (Cel.row r hr hv)
theorem AS.storeR {b off n c E zz r : Nat} {vs : List Value} [Sc P T] (hx : ev tm x = .pointer (some ⟨b, off, none⟩)) (hy : ev tm y = v) (hv : v.oneCell' = true) (hr : H[r]? = some (.row (some ⟨b, 0, none⟩) n c E zz vs)) (ho : off < vs.length)
    (h : K tm M (H.set r (.row (some ⟨b, 0, none⟩) n c E zz (vs.set off v)))) : AS P ro ⟨none, .store T x y, ty, pos, aft, gd⟩ tm M H K :=
  AS.skipv rfl rfl fun g w hS => by
    have hS1 := hS.at hr
    have hown : w.ownsRow 0 E zz (.slice (some ⟨b, 0, none⟩) n c) n vs := hS1.own _ (List.mem_cons_self ..)
    have hs := hown.stored off v
    have hcells : v.cells = #[v] := by cases v <;> first | rfl | cases hv
    have hc : w.cell? ⟨b, off, none⟩ = some vs[off] := by rw [hown.cellAt off (by rw [← hown.1]; exact ho)]; simp [ho]
    refine ⟨_, M, _, ?_, .refl M, St.back (List.getElem?_eq_some_iff.1 hr).1 (St.turn (E := [.row (some ⟨b, 0, none⟩) n c E zz vs]) (.row (some ⟨b, 0, none⟩) n c E zz (vs.set off v)) hS1 hs.2.os hs.2.tape hs.2.output hs.2.size hs.1 (fun k hk hne => hs.2.block k hk fun e => hne ?_) (fun k hk => .inl (by simpa [fps, Ent.fp] using hk)) (by simp [Ent.fp])), h⟩
    · simp only [execOp, hx, hy, Instr.storeAt, Instr.sureAddr, Sem.run_bind, Sem.run_pure, Result.andThen_ok, storeVar, hcells, Sc.size]
      simp [storeCells, run_store P w _ v .plain hv, hc, hown.frozenAt off, add_addr]
    · cases e; simp [fps, Ent.fp]
theorem S.storeR {b off n c E zz : Nat} {vs : List Value} [Sc P T] [hx : Ev tm x (.pointer (some ⟨b, off, none⟩))] [hy : Ev tm y v] [hv : One v] (r : Nat) (hr : H[r]? = some (.row (some ⟨b, 0, none⟩) n c E zz vs)) (ho : off < vs.length)
    (h : K tm M (H.set r (.row (some ⟨b, 0, none⟩) n c E zz (vs.set off v)))) : AS P ro ⟨none, .store T x y, ty, pos, aft, gd⟩ tm M H K := AS.storeR hx.out hy.out hv.out hr ho h
/-- What is known of a row that stays. -/
def Kept (M : Mem) (A : Option Addr) (n c z : Nat) (vs : List Value) : Prop := vs.length = n * z ∧ n ≤ c ∧ (0 < n → ∃ b, A = some ⟨b, 0, none⟩ ∧ ∀ j v, vs[j]? = some v → Mc M b j = some v)
theorem St.keepR {g : GW} {w : World} {A : Option Addr} {n c T z : Nat} {vs : List Value} (hS : St g M (.row A n c T z vs :: H) w) : ∃ M', M.le M' ∧ St g M' H w ∧ Kept M' A n c z vs := by
  obtain ⟨hl, ⟨e, rfl⟩ | ⟨b, cap, cur, e, h0, h3, h1, h2, h4, h5⟩⟩ := hS.own _ (List.mem_cons_self ..)
  · cases e; exact ⟨M, .refl M, hS.drop, hl, Nat.zero_le _, fun h => absurd h (Nat.lt_irrefl _)⟩
  · cases e
    have hS2 : St g M (.blk b (.cells cur T (0, 0)) :: H) w := ⟨hS.os, hS.tape, hS.output, hS.size, hS.mem, fun e he => by
      rcases List.mem_cons.1 he with rfl | he
      · exact h3
      · exact hS.own e (List.mem_cons_of_mem _ he), hS.nodup, hS.apart, hS.dsok⟩
    refine ⟨_, hS2.keep.1, hS2.keep.2, hl, h1, fun _ => ⟨b, rfl, fun j v hv => ?_⟩⟩
    unfold Mc
    rw [Mem.add_self]
    have hj := (List.getElem?_eq_some_iff.1 hv).1
    rw [← h5, List.getElem?_take] at hv
    split at hv
    · simpa using hv
    · cases hv
theorem AO.keepR {l : List Oper} {A : Option Addr} {n c E z : Nat} {vs : List Value} (r : Nat) (hr : H[r]? = some (.row A n c E z vs)) (h : ∀ M', Le M M' → Kept M' A n c z vs → AO P ro ops Q l tm M' (H.eraseIdx r)) : AO P ro ops Q l tm M H := fun g w hS => by
  obtain ⟨M', h1, h2, h3⟩ := (hS.at hr).keepR
  exact AO.weaken h1 h2 (h M' ⟨h1⟩ h3)
theorem AW.keepR {c' : Code} {A : Option Addr} {n c E z : Nat} {vs : List Value} (r : Nat) (hr : H[r]? = some (.row A n c E z vs)) (h : ∀ M', Le M M' → Kept M' A n c z vs → AW P ro c' Q tm M' (H.eraseIdx r)) : AW P ro c' Q tm M H := fun g w hS => by
  obtain ⟨M', h1, h2, h3⟩ := (hS.at hr).keepR
  exact AW.weaken h1 h2 (h M' ⟨h1⟩ h3)
theorem AO.row0 {l : List Oper} (E z : Nat) (h : AO P ro ops Q l tm M (.row none 0 0 E z [] :: H)) : AO P ro ops Q l tm M H := fun g w hS => h g w (hS.row0 E z)
theorem AW.row0 {c : Code} (E z : Nat) (h : AW P ro c Q tm M (.row none 0 0 E z [] :: H)) : AW P ro c Q tm M H := fun g w hS => h g w (hS.row0 E z)
/-- A block of cells is the row of a slice. -/
theorem St.blkR {g : GW} {w : World} {b n E z : Nat} {us : List Value} (hS : St g M (.blk b (.cells us.toArray E (0, 0)) :: H) w) (hu : us.length = n * z) (hn : n ≤ maxLen) : St g M (.row (some ⟨b, 0, none⟩) n n E z us :: H) w :=
  ⟨hS.os, hS.tape, hS.output, hS.size, hS.mem, fun e he => by
    rcases List.mem_cons.1 he with rfl | he
    · exact ⟨hu, .inr ⟨b, n, us.toArray, rfl, Nat.zero_le _, hS.own _ (List.mem_cons_self ..), Nat.le_refl _, hn, by simpa using hu, List.take_of_length_le (by simp [hu])⟩⟩
    · exact hS.own e (List.mem_cons_of_mem _ he), hS.nodup, hS.apart, hS.dsok⟩
theorem AO.blkR {l : List Oper} {b E : Nat} {us : List Value} (i n z : Nat) (hi : H[i]? = some (.blk b (.cells us.toArray E (0, 0)))) (hu : us.length = n * z) (hn : n ≤ maxLen) (h : AO P ro ops Q l tm M (H.set i (.row (some ⟨b, 0, none⟩) n n E z us))) : AO P ro ops Q l tm M H := fun g w hS =>
  h g w (St.back (List.getElem?_eq_some_iff.1 hi).1 ((hS.at hi).blkR hu hn))
/-- The own row of a slice value, and the heap with another entry in its place. -/
class Rwf (H : Heap) (A : Option Addr) (n c : Nat) (E z : outParam Nat) (vs : outParam (List Value)) (FF : outParam (Ent → Heap)) : Prop where out : ∃ r : Nat, H[r]? = some (Ent.row A n c E z vs) ∧ ∀ e, H.set r e = FF e
instance {A : Option Addr} {n c E z : Nat} {vs : List Value} : Rwf (.row A n c E z vs :: H) A n c E z vs (fun e => e :: H) := ⟨0, rfl, fun _ => rfl⟩
instance (priority := low) {A : Option Addr} {n c E z : Nat} {vs : List Value} {FF : Ent → Heap} {e0 : Ent} [h : Rwf H A n c E z vs FF] : Rwf (e0 :: H) A n c E z vs (fun e => e0 :: FF e) := ⟨by obtain ⟨r, h1, h2⟩ := h.out; exact ⟨r + 1, by simpa using h1, fun e => by rw [List.set_cons_succ, h2]⟩⟩
/-- append of a literal of one element, that lies first. -/
theorem S.ap1 {A : Option Addr} {n c E z b g cc : Nat} {vs us : List Value} {FF : Ent → Heap} [hx : Ev tm x (.slice A n c)] [hy : Ev tm y (.slice (some ⟨g, 0, none⟩) 1 cc)] [Ap P T E z b] [h1 : Ones us] [hp : Pt tm d F] [hr : Rwf H A n c E z vs FF] (hu : us.length = z) (hl : (n + 1) * b ≤ 140737488355328) (hl2 : n + 1 ≤ 9223372036854775807)
    (h : ∀ A' c', K (F (.slice A' (n + 1) c')) M (FF (.row A' (n + 1) c' E z (vs ++ us)))) : AS P ro ⟨some d, .call ⟨.builtin .append, #[x, y], #[T, T]⟩, ty, pos, aft, gd⟩ tm M (.blk g (.cells us.toArray E (0, 0)) :: H) K := by
  obtain ⟨r, h2, h3⟩ := hr.out
  exact S.app1 r h2 hu hl hl2 fun A' c' => by rw [h3]; exact h A' c'
/-- A store into an own row. -/
theorem S.stR {b off E zz : Nat} {vs : List Value} {FF : Ent → Heap} [Sc P T] [hx : Ev tm x (.pointer (some ⟨b, off, none⟩))] [hy : Ev tm y v] [hv : One v] (n c : Nat) [hr : Rwf H (some ⟨b, 0, none⟩) n c E zz vs FF] (ho : off < vs.length)
    (h : K tm M (FF (.row (some ⟨b, 0, none⟩) n c E zz (vs.set off v)))) : AS P ro ⟨none, .store T x y, ty, pos, aft, gd⟩ tm M H K := by
  obtain ⟨r, h2, h3⟩ := hr.out
  exact S.storeR r h2 ho (by rw [h3]; exact h)
theorem AC.use {f : Nat} {as : List Value} {R R' : Value → Mem → Heap → Prop} (h : AC P f as M H R) (hr : ∀ v M' H', Le M M' → R v M' H' → R' v M' H') : AC P f as M H R' := h.mono fun v M' H' hM h => hr v M' H' ⟨hM⟩ h
theorem AC.perm {f : Nat} {as : List Value} {R : Value → Mem → Heap → Prop} (hp : H'.Perm H) (h : AC P f as M H' R) : AC P f as M H R := fun g w hS => h g w (hS.perm hp)
theorem AC.sub {f : Nat} {as : List Value} {R : Value → Mem → Heap → Prop} (hp : H'.Sublist H) (h : AC P f as M H' R) : AC P f as M H R := fun g w hS => h g w (hS.sub hp)
/-- An own block becomes memory that stays. -/
theorem AW.frz {c : Code} {b T1 : Nat} {fz : Nat × Nat} {cs : List Value} (i : Nat) (hi : H[i]? = some (.blk b (.cells cs.toArray T1 fz))) (h : ∀ M', Le M M' → Mb M' b cs → AW P ro c Q tm M' (H.eraseIdx i)) : AW P ro c Q tm M H :=
  AW.keep i hi fun M' hM hb => h M' ⟨hM⟩ ⟨T1, fz, hb⟩
theorem AO.frz {l : List Oper} {b T1 : Nat} {fz : Nat × Nat} {cs : List Value} (i : Nat) (hi : H[i]? = some (.blk b (.cells cs.toArray T1 fz))) (h : ∀ M', Le M M' → Mb M' b cs → AO P ro ops Q l tm M' (H.eraseIdx i)) : AO P ro ops Q l tm M H :=
  AO.keep i hi fun M' hM hb => h M' ⟨hM⟩ ⟨T1, fz, hb⟩
/-- An entry, and what lies beside it. -/
class Er (H : Heap) (i : Nat) (e : outParam Ent) (H' : outParam Heap) : Prop where out : H[i]? = some e ∧ H.eraseIdx i = H'
instance {e : Ent} : Er (e :: H) 0 e H := ⟨rfl, rfl⟩
instance {a e : Ent} : Er (a :: e :: H) 1 e (a :: H) := ⟨rfl, rfl⟩
instance {a b e : Ent} : Er (a :: b :: e :: H) 2 e (a :: b :: H) := ⟨rfl, rfl⟩
instance {a b c e : Ent} : Er (a :: b :: c :: e :: H) 3 e (a :: b :: c :: H) := ⟨rfl, rfl⟩
instance {a b c f e : Ent} : Er (a :: b :: c :: f :: e :: H) 4 e (a :: b :: c :: f :: H) := ⟨rfl, rfl⟩
instance {a b c f q e : Ent} : Er (a :: b :: c :: f :: q :: e :: H) 5 e (a :: b :: c :: f :: q :: H) := ⟨rfl, rfl⟩
theorem AW.front {c : Code} {e : Ent} (i : Nat) [h0 : Er H i e H'] (h : AW P ro c Q tm M (e :: H')) : AW P ro c Q tm M H := fun g w hS => h g w (hS.perm (by rw [← h0.out.2]; exact perm_at h0.out.1))
theorem AO.front {l : List Oper} {e : Ent} (i : Nat) [h0 : Er H i e H'] (h : AO P ro ops Q l tm M (e :: H')) : AO P ro ops Q l tm M H := fun g w hS => h g w (hS.perm (by rw [← h0.out.2]; exact perm_at h0.out.1))
theorem AW.fz {c : Code} {b T1 : Nat} {fz : Nat × Nat} {cs : List Value} (i : Nat) [h0 : Er H i (.blk b (.cells cs.toArray T1 fz)) H'] (h : ∀ M', Le M M' → Mb M' b cs → AW P ro c Q tm M' H') : AW P ro c Q tm M H :=
  AW.frz i h0.out.1 fun M' hM hb => by rw [h0.out.2]; exact h M' hM hb
theorem AO.fz {l : List Oper} {b T1 : Nat} {fz : Nat × Nat} {cs : List Value} (i : Nat) [h0 : Er H i (.blk b (.cells cs.toArray T1 fz)) H'] (h : ∀ M', Le M M' → Mb M' b cs → AO P ro ops Q l tm M' H') : AO P ro ops Q l tm M H :=
  AO.frz i h0.out.1 fun M' hM hb => by rw [h0.out.2]; exact h M' hM hb
theorem AW.kp {c' : Code} {A : Option Addr} {n c E z : Nat} {vs : List Value} (r : Nat) [h0 : Er H r (.row A n c E z vs) H'] (h : ∀ M', Le M M' → Kept M' A n c z vs → AW P ro c' Q tm M' H') : AW P ro c' Q tm M H := AW.keepR r h0.out.1 fun M' hM hb => by rw [h0.out.2]; exact h M' hM hb
theorem AO.kp {l : List Oper} {A : Option Addr} {n c E z : Nat} {vs : List Value} (r : Nat) [h0 : Er H r (.row A n c E z vs) H'] (h : ∀ M', Le M M' → Kept M' A n c z vs → AO P ro ops Q l tm M' H') : AO P ro ops Q l tm M H := AO.keepR r h0.out.1 fun M' hM hb => by rw [h0.out.2]; exact h M' hM hb
/-! ### Bools, nil -/
class Bl (P : Program) (T : TypeId) : Prop where out : P.underlying T = some .bool
theorem V.eqb {a b : Bool} {dd : Option Tmp} [h : Bl P T] [hx : Ev tm x (.bool a)] [hy : Ev tm y (.bool b)] : PVM P ⟨dd, .binOp .eql T x y T', ty, pos, aft, gd⟩ tm M (.bool (a == b)) :=
  .mk rfl (fun w => by
    simp only [execOp, hx.out, hy.out]
    refine run_v ?_
    have hg : (eqGuard .eql T x y (.bool a) (.bool b)) = pure () := rfl
    simp [hg, run_eql_bool (w := w) T a b h.out])
end
end Go.Proofs.YtieaiheejhmbfaaGreatDoor.ML
