/- The plain laws of the reference's counts: a value that fits, visited without errors. No conditions. -/
import Derived.Test.YtieaiheejhmbfaaGreatDoorPk16
namespace Go.Proofs.YtieaiheejhmbfaaGreatDoor.ML
open Go.RowKit
set_option linter.unusedVariables false
set_option linter.unusedSimpArgs false
section
variable {P : Program} {tm : Tm} {M : Mem} {gd : Option (Nat × Bool)} {ty : TypeId} {pos : String} {aft : Array Edge} {x y : Operand} {T T' : TypeId} {dd : Option Tmp} {k : IntKind} {a b : Int}
theorem V.neqF (h : a = b) [hx : Ev tm x (.int k a)] [hy : Ev tm y (.int k b)] : PVM P ⟨dd, .binOp .neq T x y T', ty, pos, aft, gd⟩ tm M (.bool false) := by have := PV.neq (P := P) (M := M) (d := dd) (ty := ty) (pos := pos) (aft := aft) (gd := gd) (T := T) (T' := T') hx.out hy.out; rwa [decide_eq_true h] at this
end
section
variable {σ : Type} (d : List DT) (f : σ → Int → Int → σ)
mutual
def fV : Int → VT → σ → σ
  | t, .mk num con args, s => if t = 0 then f s t 0 else fL (fldV d t (.mk num con args)) args (f s t con)
def fL : List Int → List VT → σ → σ
  | _, [], s => s
  | ts, v :: vs, s => fL ts.tail vs (fV (ts.headD 0) v s)
end
theorem fV_eq (t : Int) (v : VT) (s : σ) : fV d f t v s = if t = 0 then f s t 0 else fL d f (fldV d t v) v.args (f s t v.con) := by cases v; rw [fV]; rfl
mutual
theorem wV_fV : ∀ (t : Int) (v : VT) (n : Nat) (s : σ), (wV d f t v n s).1 = 0 → (wV d f t v n s).2.2 = fV d f t v s
  | t, .mk num con args, n, s, h => by
    rw [wV] at h ⊢
    rw [fV]
    by_cases hb : badV d t (.mk num con args) = true
    · rw [if_pos hb] at h; simp at h
    rw [if_neg hb] at h ⊢
    by_cases h0 : t = 0
    · rw [if_pos h0, if_pos h0]
    rw [if_neg h0] at h ⊢
    rw [if_neg h0]
    by_cases h18 : 0 < args.length ∧ n = 65536
    · rw [if_pos h18] at h; simp at h
    rw [if_neg h18] at h ⊢
    exact wL_fL _ args _ _ h
theorem wL_fL : ∀ (ts : List Int) (vs : List VT) (n : Nat) (s : σ), (wL d f ts vs n s).1 = 0 → (wL d f ts vs n s).2.2 = fL d f ts vs s
  | ts, [], n, s, h => by rw [wL, fL]
  | ts, v :: vs, n, s, h => by
    rw [wL] at h ⊢
    rw [fL]
    by_cases he : (wV d f (ts.headD 0) v n s).1 ≠ 0
    · rw [if_pos he] at h; exact absurd h he
    rw [if_neg he] at h ⊢
    rw [wL_fL _ vs _ _ h, wV_fV _ v n s (by simpa using he)]
end
theorem fL_at (ts : List Int) (vs : List VT) (s : σ) (i : Nat) (h : i < vs.length) (h' : i < ts.length) : fL d f (ts.drop i) (vs.drop i) s = fL d f (ts.drop (i + 1)) (vs.drop (i + 1)) (fV d f ts[i] vs[i] s) := by
  rw [List.drop_eq_getElem_cons h, List.drop_eq_getElem_cons h', fL]; rfl
mutual
theorem fV_len (I : σ → Prop) (h : ∀ s t con, I s → I (f s t con)) : ∀ (t : Int) (v : VT) (s : σ), I s → I (fV d f t v s)
  | t, .mk num con args, s, hs => by
    rw [fV]
    split
    · exact h _ _ _ hs
    · exact fL_len I h _ args _ (h _ _ _ hs)
theorem fL_len (I : σ → Prop) (h : ∀ s t con, I s → I (f s t con)) : ∀ (ts : List Int) (vs : List VT) (s : σ), I s → I (fL d f ts vs s)
  | ts, [], s, hs => by rw [fL]; exact hs
  | ts, v :: vs, s, hs => by rw [fL]; exact fL_len I h _ vs _ (fV_len I h _ v _ hs)
end
theorem fL_end (ts : List Int) (vs : List VT) (s : σ) (i : Nat) (h : vs.length ≤ i) : fL d f (ts.drop i) (vs.drop i) s = s := by
  rw [List.drop_eq_nil_of_le h]; unfold fL; rfl
end
section
variable {σ τ : Type} (d : List DT) (f : σ → Int → Int → σ) (g : τ → Int → Int → τ)
mutual
theorem wV_two : ∀ (t : Int) (v : VT) (n : Nat) (s : σ) (r : τ), (wV d f t v n s).1 = (wV d g t v n r).1 ∧ (wV d f t v n s).2.1 = (wV d g t v n r).2.1
  | t, .mk num con args, n, s, r => by
    rw [wV, wV]
    by_cases hb : badV d t (.mk num con args) = true
    · rw [if_pos hb, if_pos hb]; exact ⟨rfl, rfl⟩
    rw [if_neg hb, if_neg hb]
    by_cases h0 : t = 0
    · rw [if_pos h0, if_pos h0]; exact ⟨rfl, rfl⟩
    rw [if_neg h0, if_neg h0]
    by_cases h18 : 0 < args.length ∧ n = 65536
    · rw [if_pos h18, if_pos h18]; exact ⟨rfl, rfl⟩
    rw [if_neg h18, if_neg h18]
    exact wL_two _ args _ _ _
theorem wL_two : ∀ (ts : List Int) (vs : List VT) (n : Nat) (s : σ) (r : τ), (wL d f ts vs n s).1 = (wL d g ts vs n r).1 ∧ (wL d f ts vs n s).2.1 = (wL d g ts vs n r).2.1
  | ts, [], n, s, r => by rw [wL, wL]; exact ⟨rfl, rfl⟩
  | ts, v :: vs, n, s, r => by
    have h1 := wV_two (ts.headD 0) v n s r
    rw [wL, wL, h1.1, h1.2]
    split
    · exact h1
    · exact wL_two _ vs _ _ _
end
end
theorem cells_w {d : List DT} {t : Int} {v : VT} (h : (cellsF d t v).2 = 0) : (wV d (fun (_ : Unit) _ _ => ()) t v 0 ()).1 = 0 := by
  unfold cellsF at h
  split at h
  · rename_i h1; exact absurd h h1
  · split at h
    · rename_i h2; exact absurd h h2
    · rename_i h2; simpa using h2
theorem counts_fV {d : List DT} {t : Int} {v : VT} (h : (cellsF d t v).2 = 0) : countsF d t v = (fV d (countF (ofF d t)) t v (List.replicate (ofF d t).length 0), 0) := by
  rw [countsF, if_neg (fun hh => hh h), wV_fV]
  rw [(wV_two d (countF (ofF d t)) (fun (_ : Unit) _ _ => ()) t v 0 _ ()).1]
  exact cells_w h
/-- Counting by looking through the places: the first i are done. -/
def stepF (ps : List (Int × Int)) (out : List Int) (x : Int × Int) (i : Nat) : List Int := if x ∈ ps.take i then out.set (ps.idxOf x) (IntKind.i64.wrap (out.getD (ps.idxOf x) 0 + 1)) else out
theorem stepF_len (ps : List (Int × Int)) (out : List Int) (x : Int × Int) (i : Nat) : (stepF ps out x i).length = out.length := by unfold stepF; split <;> simp
theorem stepF_0 (ps : List (Int × Int)) (out : List Int) (x : Int × Int) : stepF ps out x 0 = out := by simp [stepF]
theorem stepF_hit {ps : List (Int × Int)} (hn : ps.Nodup) (out : List Int) (x : Int × Int) (i : Nat) (h : i < ps.length) (e : ps[i] = x) :
    stepF ps out x (i + 1) = (stepF ps out x i).set i (IntKind.i64.wrap ((stepF ps out x i).getD i 0 + 1)) := by
  have h1 : x ∉ ps.take i := fun hm => by
    have h5 := hn
    rw [← List.take_append_drop i ps, List.nodup_append] at h5
    exact h5.2.2 _ hm _ (by rw [List.drop_eq_getElem_cons h]; exact List.mem_cons_self ..) e.symm
  have h2 : ps.idxOf x = i := by rw [← e]; exact List.Nodup.idxOf_getElem hn i h
  have h3 : x ∈ ps.take (i + 1) := by rw [take_succ _ _ h, e]; simp
  unfold stepF
  rw [if_pos h3, if_neg h1, h2]
theorem stepF_miss {ps : List (Int × Int)} (out : List Int) (x : Int × Int) (i : Nat) (h : i < ps.length) (e : ps[i] ≠ x) : stepF ps out x (i + 1) = stepF ps out x i := by
  have hi : x ∈ ps.take (i + 1) ↔ x ∈ ps.take i := by rw [take_succ _ _ h, List.mem_append, List.mem_singleton]; exact ⟨fun hh => hh.resolve_right (fun q => e q.symm), .inl⟩
  unfold stepF
  by_cases hm : x ∈ ps.take i
  · rw [if_pos hm, if_pos (hi.2 hm)]
  · rw [if_neg hm, if_neg (fun h => hm (hi.1 h))]
theorem stepF_end {ps : List (Int × Int)} (out : List Int) (t con : Int) (ht : t ≠ 0) (i : Nat) (h : ps.length ≤ i) : stepF ps out (t, con) i = countF ps out t con := by
  unfold stepF countF
  rw [List.take_of_length_le h]
  simp [ht]
end Go.Proofs.YtieaiheejhmbfaaGreatDoor.ML
