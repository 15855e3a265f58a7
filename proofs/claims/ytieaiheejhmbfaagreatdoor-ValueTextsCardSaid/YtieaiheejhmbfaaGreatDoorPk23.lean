/- The plain laws of the reference's counts: a value that fits, visited without errors. No conditions. -/
import Derived.Test.YtieaiheejhmbfaaGreatDoorPk16
import Derived.Test.YtieaiheejhmbfaaGreatDoorPk21
namespace Go.Proofs.YtieaiheejhmbfaaGreatDoor.ML
open Go.RowKit
set_option linter.unusedVariables false
set_option linter.unusedSimpArgs false
section
variable {P : Program} {tm : Tm} {M : Mem} {gd : Option (Nat × Bool)} {ty : TypeId} {pos : String} {aft : Array Edge} {x y : Operand} {T T' : TypeId} {dd : Option Tmp} {k : IntKind} {a b : Int}
theorem V.neqF (h : a = b) [hx : Ev tm x (.int k a)] [hy : Ev tm y (.int k b)] : PVM P ⟨dd, .binOp .neq T x y T', ty, pos, aft, gd⟩ tm M (.bool false) := by have := PV.neq (P := P) (M := M) (d := dd) (ty := ty) (pos := pos) (aft := aft) (gd := gd) (T := T) (T' := T') hx.out hy.out; rwa [decide_eq_true h] at this
end
section
variable {σ : Type} (d : List DT) (f : σ → Int → Int → σ)
mutual
def fV : Int → VT → σ → σ
  | t, .mk num con args, s => if t = 0 then f s t 0 else fL (fldV d t (.mk num con args)) args (f s t con)
def fL : List Int → List VT → σ → σ
  | _, [], s => s
  | ts, v :: vs, s => fL ts.tail vs (fV (ts.headD 0) v s)
end
theorem fV_eq (t : Int) (v : VT) (s : σ) : fV d f t v s = if t = 0 then f s t 0 else fL d f (fldV d t v) v.args (f s t v.con) := by cases v; rw [fV]; rfl
mutual
theorem wV_fV : ∀ (t : Int) (v : VT) (n : Nat) (s : σ), (wV d f t v n s).1 = 0 → (wV d f t v n s).2.2 = fV d f t v s
  | t, .mk num con args, n, s, h => by
    rw [wV] at h ⊢
    rw [fV]
    by_cases hb : badV d t (.mk num con args) = true
    · rw [if_pos hb] at h; simp at h
    rw [if_neg hb] at h ⊢
    by_cases h0 : t = 0
    · rw [if_pos h0, if_pos h0]
    rw [if_neg h0] at h ⊢
    rw [if_neg h0]
    by_cases h18 : 0 < args.length ∧ n = 65536
    · rw [if_pos h18] at h; simp at h
    rw [if_neg h18] at h ⊢
    exact wL_fL _ args _ _ h
theorem wL_fL : ∀ (ts : List Int) (vs : List VT) (n : Nat) (s : σ), (wL d f ts vs n s).1 = 0 → (wL d f ts vs n s).2.2 = fL d f ts vs s
  | ts, [], n, s, h => by rw [wL, fL]
  | ts, v :: vs, n, s, h => by
    rw [wL] at h ⊢
    rw [fL]
    by_cases he : (wV d f (ts.headD 0) v n s).1 ≠ 0
    · rw [if_pos he] at h; exact absurd h he
    rw [if_neg he] at h ⊢
    rw [wL_fL _ vs _ _ h, wV_fV _ v n s (by simpa using he)]
end
theorem fL_at (ts : List Int) (vs : List VT) (s : σ) (i : Nat) (h : i < vs.length) (h' : i < ts.length) : fL d f (ts.drop i) (vs.drop i) s = fL d f (ts.drop (i + 1)) (vs.drop (i + 1)) (fV d f ts[i] vs[i] s) := by
  rw [List.drop_eq_getElem_cons h, List.drop_eq_getElem_cons h', fL]; rfl
mutual
theorem fV_len (I : σ → Prop) (h : ∀ s t con, I s → I (f s t con)) : ∀ (t : Int) (v : VT) (s : σ), I s → I (fV d f t v s)
  | t, .mk num con args, s, hs => by
    rw [fV]
    split
    · exact h _ _ _ hs
    · exact fL_len I h _ args _ (h _ _ _ hs)
theorem fL_len (I : σ → Prop) (h : ∀ s t con, I s → I (f s t con)) : ∀ (ts : List Int) (vs : List VT) (s : σ), I s → I (fL d f ts vs s)
  | ts, [], s, hs => by rw [fL]; exact hs
  | ts, v :: vs, s, hs => by rw [fL]; exact fL_len I h _ vs _ (fV_len I h _ v _ hs)
end
theorem fL_end (ts : List Int) (vs : List VT) (s : σ) (i : Nat) (h : vs.length ≤ i) : fL d f (ts.drop i) (vs.drop i) s = s := by
  rw [List.drop_eq_nil_of_le h]; unfold fL; rfl
end
section
variable {σ τ : Type} (d : List DT) (f : σ → Int → Int → σ) (g : τ → Int → Int → τ)
mutual
theorem wV_two : ∀ (t : Int) (v : VT) (n : Nat) (s : σ) (r : τ), (wV d f t v n s).1 = (wV d g t v n r).1 ∧ (wV d f t v n s).2.1 = (wV d g t v n r).2.1
  | t, .mk num con args, n, s, r => by
    rw [wV, wV]
    by_cases hb : badV d t (.mk num con args) = true
    · rw [if_pos hb, if_pos hb]; exact ⟨rfl, rfl⟩
    rw [if_neg hb, if_neg hb]
    by_cases h0 : t = 0
    · rw [if_pos h0, if_pos h0]; exact ⟨rfl, rfl⟩
    rw [if_neg h0, if_neg h0]
    by_cases h18 : 0 < args.length ∧ n = 65536
    · rw [if_pos h18, if_pos h18]; exact ⟨rfl, rfl⟩
    rw [if_neg h18, if_neg h18]
    exact wL_two _ args _ _ _
theorem wL_two : ∀ (ts : List Int) (vs : List VT) (n : Nat) (s : σ) (r : τ), (wL d f ts vs n s).1 = (wL d g ts vs n r).1 ∧ (wL d f ts vs n s).2.1 = (wL d g ts vs n r).2.1
  | ts, [], n, s, r => by rw [wL, wL]; exact ⟨rfl, rfl⟩
  | ts, v :: vs, n, s, r => by
    have h1 := wV_two (ts.headD 0) v n s r
    rw [wL, wL, h1.1, h1.2]
    split
    · exact h1
    · exact wL_two _ vs _ _ _
end
end
theorem cells_w {d : List DT} {t : Int} {v : VT} (h : (cellsF d t v).2 = 0) : (wV d (fun (_ : Unit) _ _ => ()) t v 0 ()).1 = 0 := by
  unfold cellsF at h
  split at h
  · rename_i h1; exact absurd h h1
  · split at h
    · rename_i h2; exact absurd h h2
    · rename_i h2; simpa using h2
theorem counts_fV {d : List DT} {t : Int} {v : VT} (h : (cellsF d t v).2 = 0) : countsF d t v = (fV d (countF (ofF d t)) t v (List.replicate (ofF d t).length 0), 0) := by
  rw [countsF, if_neg (fun hh => hh h), wV_fV]
  rw [(wV_two d (countF (ofF d t)) (fun (_ : Unit) _ _ => ()) t v 0 _ ()).1]
  exact cells_w h
/-- Counting by looking through the places: the first i are done. -/
def stepF (ps : List (Int × Int)) (out : List Int) (x : Int × Int) (i : Nat) : List Int := if x ∈ ps.take i then out.set (ps.idxOf x) (IntKind.i64.wrap (out.getD (ps.idxOf x) 0 + 1)) else out
theorem stepF_len (ps : List (Int × Int)) (out : List Int) (x : Int × Int) (i : Nat) : (stepF ps out x i).length = out.length := by unfold stepF; split <;> simp
theorem stepF_0 (ps : List (Int × Int)) (out : List Int) (x : Int × Int) : stepF ps out x 0 = out := by simp [stepF]
theorem stepF_hit {ps : List (Int × Int)} (hn : ps.Nodup) (out : List Int) (x : Int × Int) (i : Nat) (h : i < ps.length) (e : ps[i] = x) :
    stepF ps out x (i + 1) = (stepF ps out x i).set i (IntKind.i64.wrap ((stepF ps out x i).getD i 0 + 1)) := by
  have h1 : x ∉ ps.take i := fun hm => by
    have h5 := hn
    rw [← List.take_append_drop i ps, List.nodup_append] at h5
    exact h5.2.2 _ hm _ (by rw [List.drop_eq_getElem_cons h]; exact List.mem_cons_self ..) e.symm
  have h2 : ps.idxOf x = i := by rw [← e]; exact List.Nodup.idxOf_getElem hn i h
  have h3 : x ∈ ps.take (i + 1) := by rw [take_succ _ _ h, e]; simp
  unfold stepF
  rw [if_pos h3, if_neg h1, h2]
theorem stepF_miss {ps : List (Int × Int)} (out : List Int) (x : Int × Int) (i : Nat) (h : i < ps.length) (e : ps[i] ≠ x) : stepF ps out x (i + 1) = stepF ps out x i := by
  have hi : x ∈ ps.take (i + 1) ↔ x ∈ ps.take i := by rw [take_succ _ _ h, List.mem_append, List.mem_singleton]; exact ⟨fun hh => hh.resolve_right (fun q => e q.symm), .inl⟩
  unfold stepF
  by_cases hm : x ∈ ps.take i
  · rw [if_pos hm, if_pos (hi.2 hm)]
  · rw [if_neg hm, if_neg (fun h => hm (hi.1 h))]
theorem stepF_end {ps : List (Int × Int)} (out : List Int) (t con : Int) (ht : t ≠ 0) (i : Nat) (h : ps.length ≤ i) : stepF ps out (t, con) i = countF ps out t con := by
  unfold stepF countF
  rw [List.take_of_length_le h]
  simp [ht]
end Go.Proofs.YtieaiheejhmbfaaGreatDoor.ML
/- Walks of functions of the program, in the abstract layer. No conditions. -/
namespace Go.Proofs.YtieaiheejhmbfaaGreatDoor.ML
open Go.RowKit
set_option linter.unusedVariables false
set_option linter.unusedSimpArgs false
set_option maxHeartbeats 1600000 in
set_option synthInstance.maxHeartbeats 400000 in
set_option synthInstance.maxSize 100000 in
set_option maxRecDepth 100000 in
theorem r_collect_c (d : List DT) (hT : TypedP d) (hd8 : d.length ≤ 1000000) : ∀ (s : Nat) (t : Int) (l : List Int), 0 ≤ t ∧ t ≤ d.length → OkC d l → d.length + 1 < s + l.length → ∀ (M : Mem) (H : Heap) (Ad : Option Addr) (cd : Nat) (A : Option Addr) (c : Nat), RdS 2 (RdD M) Ad cd d →
    AC Tryz.prog 99 [.slice Ad d.length cd, .int .i64 t, .slice A l.length c] M (.row A (l).length c 23 1 ((l).map (.int .i64)) :: H) fun v M' H' => ∃ A' c', v = .slice A' (cvF d s t l).length c' ∧ H' = .row A' (cvF d s t l).length c' 23 1 ((cvF d s t l).map (.int .i64)) :: H
  | 0, t, l, ht, hok, hs => by have := hok.okl.len; omega
  | s + 1, t, l, ht, hok, hs => by
    intro M H Ad cd A c hd
    have hlen := hok.okl.len
    have hbd := hd.bd
    refine AC.of (n := 54) Tryz.func99 rfl rfl ?_
    dsimp only [List.replicate, List.cons_append, List.nil_append]
    refine AW.seq ?_
    refine AW.region ?_
    refine st V.assign ?_
    refine sn ?_
    refine AW.seq ?_
    refine AW.seq ?_
    refine AW.region ?_
    refine st V.move ?_
    refine st V.move ?_
    refine se (S.call ?_)
    refine (r18_flat_c _ _ Ad cd d t ht hd.upD).use ?_
    rintro v1 N1 G1 iz1 ⟨rfl, hG⟩
    obtain rfl := hG.symm
    refine st V.move ?_
    refine onoff true rfl rfl (fun h1 => ?_) (fun h1 => ?_)
    ·
      have k1 := bp h1
      refine st V.move ?_
      refine on rfl h1 ?_
      refine st V.move ?_
      refine on rfl h1 ?_
      refine se (S.call ?_)
      refine (r18_has_c _ _ A c 0 l rfl (by omega) t).use ?_
      rintro v2 N2 G2 iz2 ⟨rfl, hG⟩
      obtain rfl := hG.symm
      refine st (V.pF h1) ?_
      refine sn ?_
      refine cond (fun h2 => ?_) (fun h2 => ?_)
      ·
        have k2 := bp h2
        refine AW.seq ?_
        refine AW.region ?_
        refine st V.move ?_
        refine st V.assign ?_
        refine sn ?_
        refine AW.ret ?_
        repeat with_reducible first | refine thn_ret ?_ | refine inb_ret ?_
        refine fin (Res.i1 rfl) ?_
        have e : cvF d (s + 1) t l = l := cvF_in (by simpa using k2)
        refine ⟨_, List.Sublist.refl _, A, c, by rw [e], by rw [e]⟩
      ·
        have k2 := bp h2
        refine AW.skip ?_
        refine AW.seq ?_
        have hnin : t ∉ l := by simpa using k2
        have hpos := flatF_pos ht k1
        obtain ⟨p, rfl⟩ : ∃ p : Nat, t = (p : Int) + 1 := ⟨(t - 1).toNat, by omega⟩
        have hp0 : p < d.length := by omega
        have hok2 : OkC d (l ++ [(p : Int) + 1]) := ⟨nodup_push hok.1 hnin, fun x hx => by rcases List.mem_append.1 hx with hx | hx; exact hok.2 x hx; simp at hx; subst hx; omega⟩
        have hlen2 := hok2.okl.len
        simp at hlen2
        refine AW.region ?_
        refine st V.move ?_
        refine st V.move ?_
        refine se (S.lit1 (by rfl) (by decide) ?_); intro g21
        refine se (S.ap1 (by rfl) (by omega) (by omega) ?_)
        intro A2 c2
        refine st V.assign ?_
        refine sn ?_
        refine AW.seq ?_
        obtain ⟨bx, ox, hAx, w0, wb0, Ac, cc, w1, ec⟩ := (hd.upD (M' := N2)).at p hp0
        have hbc := ec.bd
        refine AW.region ?_
        refine st V.move ?_
        refine st V.move ?_
        refine st (V.sub64 (by omega)) ?_
        refine st (V.ib p (by omega) hp0 hAx) ?_
        refine st V.fa ?_
        first | refine st V.ld ?_ | refine sq V.lo ?_
        refine st V.assign ?_
        refine sn ?_
        refine AW.seq ?_
        refine AW.seq ?_
        refine AW.region ?_
        refine st V.assign ?_
        refine sn ?_
        refine AW.block ?_
        refine AW.loopL [2, 8] (9 :: 29 :: 30 :: 31 :: 32 :: 33 :: 34 :: 35 :: 36 :: 37 :: 38 :: 39 :: 40 :: 41 :: 42 :: 43 :: 44 :: 45 :: 46 :: 47 :: 48 :: 49 :: 50 :: 51 :: 52 :: 53 :: 54 :: 55 :: []) (fun n vs M' H' => ∃ (i : Nat) (A' : Option Addr) (c' : Nat) (l' : List Int), vs = [.slice A' l'.length c', .int .i64 (i : Int)] ∧ H' = .row A' (l').length c' 23 1 ((l').map (.int .i64)) :: H ∧ l' = ((d[p].cons.take i).flatMap (·.fields)).foldl (fun l f => cvF d s f l) (l ++ [(p : Int) + 1]) ∧ OkC d l' ∧ l.length + 1 ≤ l'.length ∧ i + n = d[p].cons.length) (d[p].cons.length) (⟨0, A2, c2, l ++ [(p : Int) + 1], by simp, by simp, rfl, hok2, by simp, by omega⟩) ?_
        intro n Ml Hl iL u2 u8 hI u9 u29 u30 u31 u32 u33 u34 u35 u36 u37 u38 u39 u40 u41 u42 u43 u44 u45 u46 u47 u48 u49 u50 u51 u52 u53 u54 u55
        obtain ⟨i, A', c', l', hv, rfl, hl', hok', hle', hi⟩ := hI
        cases hv
        refine sa ?_
        refine AW.seq ?_
        refine AW.seq ?_
        refine AW.region ?_
        refine st V.move ?_
        refine st V.move ?_
        refine st V.len ?_
        refine st V.lss ?_
        refine sn ?_
        refine cond (fun h3 => ?_) (fun h3 => ?_)
        ·
          have k3 := bp h3
          refine AW.skip ?_
          refine AW.seq ?_
          refine AW.block ?_
          refine AW.seq ?_
          have z6 : i < d[p].cons.length := by omega
          obtain ⟨b8, o8, hA8, i0, ib0, A8, c8, i1, i2⟩ := (ec.upC (M' := Ml)).at i z6
          have hbf := i2.bd
          refine AW.region ?_
          refine st V.assign ?_
          refine sn ?_
          refine AW.block ?_
          refine AW.loopL [2, 9] (35 :: 36 :: 37 :: 38 :: 39 :: 40 :: 41 :: 42 :: 43 :: 44 :: 45 :: 46 :: 47 :: 48 :: 49 :: 50 :: 51 :: 52 :: 53 :: 54 :: 55 :: []) (fun n vs M' H' => ∃ (j : Nat) (A' : Option Addr) (c' : Nat) (l' : List Int), vs = [.slice A' l'.length c', .int .i64 (j : Int)] ∧ H' = .row A' (l').length c' 23 1 ((l').map (.int .i64)) :: H ∧ l' = ((d[p].cons.take i).flatMap (·.fields) ++ d[p].cons[i].fields.take j).foldl (fun l f => cvF d s f l) (l ++ [(p : Int) + 1]) ∧ OkC d l' ∧ l.length + 1 ≤ l'.length ∧ j + n = d[p].cons[i].fields.length) (d[p].cons[i].fields.length) (⟨0, A', c', l', rfl, rfl, by rw [hl']; simp, hok', hle', by omega⟩) ?_
          intro n1 Ml1 Hl1 iL1 u2 u9 hI1 u35 u36 u37 u38 u39 u40 u41 u42 u43 u44 u45 u46 u47 u48 u49 u50 u51 u52 u53 u54 u55
          obtain ⟨j, A3, c3, l3, hv, rfl, hl3, hok3, hle3, hj⟩ := hI1
          cases hv
          refine sa ?_
          refine AW.seq ?_
          refine AW.seq ?_
          refine AW.region ?_
          refine st V.move ?_
          refine st V.move ?_
          refine st V.move ?_
          refine st (V.ib i rfl z6 hA8) ?_
          refine st V.fa ?_
          first | refine st V.ld ?_ | refine sq V.lo ?_
          refine st V.len ?_
          refine st V.lss ?_
          refine sn ?_
          refine cond (fun h4 => ?_) (fun h4 => ?_)
          ·
            have k4 := bp h4
            refine AW.skip ?_
            refine AW.seq ?_
            refine AW.block ?_
            have z9 : j < d[p].cons[i].fields.length := by omega
            obtain ⟨b7, o7, hA7, e7⟩ := (i2.upI (M' := Ml1)).at j z9
            have e7 : Mk Ml1 b7 (o7 + j * 1) (.int .i64 d[p].cons[i].fields[j]) := e7
            refine AW.region ?_
            refine st V.move ?_
            refine st V.move ?_
            refine st V.move ?_
            refine st (V.ib i rfl z6 hA8) ?_
            refine st V.fa ?_
            first | refine st V.ld ?_ | refine sq V.lo ?_
            refine st V.move ?_
            refine st (V.ib j rfl z9 hA7) ?_
            first | refine st V.ld ?_ | refine sq V.lo ?_
            refine st V.move ?_
            refine se (S.call ?_)
            refine (r_collect_c d hT hd8 s _ l3 (hT p hp0 i z6 _ (List.getElem_mem z9)) hok3 (by omega) _ H Ad cd A3 c3 hd.upD).use ?_
            rintro v7 N7 G7 iz7 ⟨A5, c5, rfl, hG⟩
            obtain rfl := hG
            refine st V.assign ?_
            refine sn ?_
            refine AW.region ?_
            refine st V.move ?_
            refine st (V.add64 (by omega)) ?_
            refine st V.assign ?_
            refine sn ?_
            repeat with_reducible refine inb_normal ?_
            refine thn_normal ?_
            have hcv := cvF_ok d hT s _ l3 (hT p hp0 i z6 _ (List.getElem_mem z9)) hok3
            refine rnd (n1 - 1) _ (by omega) (List.Sublist.refl _) ⟨j + 1, A5, c5, _, by simp, rfl, ?_, hcv.1, Nat.le_trans hle3 hcv.2, by omega⟩
            rw [take_succ _ _ z9, ← List.append_assoc, List.foldl_append, ← hl3]; rfl
          ·
            have k4 := bp h4
            refine AW.exit ?_
            repeat with_reducible refine thn_exit ?_
            refine inb_exit ?_
            refine AW.region ?_
            refine st V.move ?_
            refine st (V.add64 (by omega)) ?_
            refine st V.assign ?_
            refine sn ?_
            repeat with_reducible refine inb_normal ?_
            refine thn_normal ?_
            have e9 : d[p].cons[i].fields.take j = d[p].cons[i].fields := List.take_of_length_le (by omega)
            refine rnd (n - 1) _ (by omega) (List.Sublist.refl _) ⟨i + 1, A3, c3, l3, by simp, rfl, ?_, hok3, hle3, by omega⟩
            rw [hl3, take_succ _ _ z6, List.flatMap_append, e9, List.flatMap_cons, List.flatMap_nil, List.append_nil]
        ·
          have k3 := bp h3
          refine AW.exit ?_
          repeat with_reducible refine thn_exit ?_
          refine inb_exit ?_
          refine AW.seq ?_
          refine AW.region ?_
          refine st V.move ?_
          refine st V.assign ?_
          refine sn ?_
          refine AW.ret ?_
          repeat with_reducible first | refine thn_ret ?_ | refine inb_ret ?_
          refine fin (Res.i1 rfl) ?_
          have e : cvF d (s + 1) ((p : Int) + 1) l = l' := by rw [cvF_new k1 hnin, hl', fields_at d p hp0, List.take_of_length_le (by omega)]
          refine ⟨_, List.Sublist.refl _, A', c', by rw [e], by rw [e]⟩
    ·
      have k1 := bp h1
      refine off rfl h1 ?_
      refine off rfl h1 ?_
      refine st (V.pT h1) ?_
      refine sn ?_
      refine cond (fun _ => ?_) (fun h => by cases h)
      refine AW.seq ?_
      refine AW.region ?_
      refine st V.move ?_
      refine st V.assign ?_
      refine sn ?_
      refine AW.ret ?_
      repeat with_reducible first | refine thn_ret ?_ | refine inb_ret ?_
      refine fin (Res.i1 rfl) ?_
      have e : cvF d (s + 1) t l = l := cvF_flat k1
      refine ⟨_, List.Sublist.refl _, A, c, by rw [e], by rw [e]⟩
set_option maxHeartbeats 1600000 in
set_option synthInstance.maxHeartbeats 400000 in
set_option synthInstance.maxSize 100000 in
set_option maxRecDepth 100000 in
theorem r_contents_c (d : List DT) (hT : TypedP d) (hd8 : d.length ≤ 1000000) (M : Mem) (H : Heap) (A : Option Addr) (c : Nat) (hd : RdS 2 (RdD M) A c d) (t : Int) (ht : 0 ≤ t ∧ t ≤ d.length) :
    AC Tryz.prog 72 [.slice A d.length c, .int .i64 t] M H fun v M' H' => ∃ A' c', v = .slice A' (contF d t).length c' ∧ RdS 1 (RdI M') A' c' (contF d t) ∧ H' = H := by
  refine AC.of (n := 6) Tryz.func72 rfl rfl ?_
  dsimp only [List.replicate, List.cons_append, List.nil_append]
  refine AW.seq ?_
  refine AW.region ?_
  refine st V.assign ?_
  refine sn ?_
  refine AW.seq ?_
  refine AW.row0 23 1 ?_
  have z0 : OkC d [] := ⟨by simp, by simp⟩
  refine AW.region ?_
  refine st V.move ?_
  refine st V.move ?_
  refine se (S.call ?_)
  refine (r_collect_c d hT hd8 (d.length + 2) t [] ht z0 (by simp) _ H A c none 0 hd.upD).use ?_
  rintro v N G iz ⟨A5, c5, rfl, hG⟩
  obtain rfl := hG
  refine AO.kp 0 fun Mk ik hk => ?_
  refine st V.assign ?_
  refine sn ?_
  refine AW.ret ?_
  repeat with_reducible first | refine thn_ret ?_ | refine inb_ret ?_
  refine fin (Res.i1 rfl) ?_
  have hl := (cvF_ok d hT (d.length + 2) t [] ht z0).1.okl.len
  refine ⟨_, (by repeat first | exact List.Sublist.refl _ | apply List.Sublist.cons), A5, c5, rfl, hk.ints rfl (by omega), rfl⟩
set_option maxHeartbeats 1600000 in
set_option synthInstance.maxHeartbeats 400000 in
set_option synthInstance.maxSize 100000 in
set_option maxRecDepth 100000 in
theorem r_of_c (M : Mem) (H : Heap) (A : Option Addr) (c : Nat) (d : List DT) (hd : RdS 2 (RdD M) A c d) (t : Int) :
    AC Tryz.prog 40 [.slice A d.length c, .int .i64 t] M H fun v M' H' => ∃ A' c', v = .slice A' (ofF d t).length c' ∧ RdS 2 (RdP M') A' c' (ofF d t) ∧ H' = H := by
  refine AC.of (n := 49) Tryz.func40 rfl rfl ?_
  dsimp only [List.replicate, List.cons_append, List.nil_append]
  refine AW.seq ?_
  refine AW.region ?_
  refine st V.assign ?_
  refine sn ?_
  refine AW.seq ?_
  refine AW.seq ?_
  refine AW.region ?_
  refine st V.move ?_
  refine se (S.call ?_)
  refine (r_check_c _ _ A c d hd.upD).use ?_
  rintro v1 N1 G1 iz1 ⟨rfl, hG⟩
  obtain rfl := hG.symm
  refine st V.neq ?_
  refine st V.move ?_
  refine onoff true rfl rfl (fun h1 => ?_) (fun h1 => ?_)
  ·
    have k1 := bp h1
    refine st V.move ?_
    refine on rfl h1 ?_
    refine st V.move ?_
    refine on rfl h1 ?_
    refine se (S.call ?_)
    refine (r18_istype_c _ _ A c d.length (by have := hd.bd; omega) t).use ?_
    rintro v2 N2 G2 iz2 ⟨rfl, hG⟩
    obtain rfl := hG.symm
    refine on rfl h1 ?_
    refine st V.not ?_
    refine st (V.pF h1) ?_
    refine sn ?_
    refine cond (fun h2 => ?_) (fun h2 => ?_)
    ·
      have k2 := bp h2
      refine AW.seq ?_
      refine AW.region ?_
      refine st V.assign ?_
      refine sn ?_
      refine AW.ret ?_
      repeat with_reducible first | refine thn_ret ?_ | refine inb_ret ?_
      refine fin (Res.i1 rfl) ?_
      have e : ofF d t = [] := by rw [ofF, if_neg (fun h => k2 h.2)]
      refine ⟨_, List.Sublist.refl _, ?_⟩
      rw [e]; exact ⟨none, 0, rfl, RdS.nil, rfl⟩
    ·
      have k2 := bp h2
      refine AW.skip ?_
      refine AW.seq ?_
      have hck : checkF d = 0 := k1
      have hco := checkF_ok hck
      have hT := hco.2.2.2.1
      have hbig := many_bd hco.1
      have ht : 0 ≤ t ∧ t ≤ d.length := k2
      have hcl : OkC d (contF d t) := (cvF_ok d hT (d.length + 2) t [] ht ⟨by simp, by simp⟩).1
      have hcn := hcl.okl.len
      have hof : ofF d t = placesF d (contF d t) := by rw [ofF, if_pos ⟨hck, ht⟩]
      refine AW.region ?_
      refine st V.move ?_
      refine st V.move ?_
      refine se (S.call ?_)
      refine (r_contents_c d hT (by omega) _ _ A c hd.upD t ht).use ?_
      rintro v4 N4 G4 iz4 ⟨Ac, cc, rfl, ec, hG⟩
      obtain rfl := hG.symm
      have hbc := ec.bd
      refine st V.assign ?_
      refine sn ?_
      refine AW.seq ?_
      refine AW.region ?_
      refine st V.assign ?_
      refine sn ?_
      refine AW.seq ?_
      refine AW.seq ?_
      refine AW.region ?_
      refine st V.assign ?_
      refine sn ?_
      refine AW.block ?_
      refine AW.row0 65 2 ?_
      refine AW.loopL [6, 7] (8 :: 21 :: 22 :: 23 :: 24 :: 25 :: 26 :: 27 :: 28 :: 29 :: 30 :: 31 :: 32 :: 33 :: 34 :: 35 :: 36 :: 37 :: 38 :: 39 :: 40 :: 41 :: 42 :: 43 :: 44 :: 45 :: 46 :: 47 :: 48 :: 49 :: []) (fun n vs M' H' => ∃ (i : Nat) (A' : Option Addr) (c' : Nat) (l' : List (Int × Int)), vs = [.slice A' l'.length c', .int .i64 (i : Int)] ∧ H' = .row A' l'.length c' 65 2 (l'.flatMap plC) :: H ∧ l' = placesF d ((contF d t).take i) ∧ i + n = (contF d t).length) ((contF d t).length) (⟨0, none, 0, [], rfl, rfl, rfl, by omega⟩) ?_
      intro n Ml Hl iL u6 u7 hI u8 u21 u22 u23 u24 u25 u26 u27 u28 u29 u30 u31 u32 u33 u34 u35 u36 u37 u38 u39 u40 u41 u42 u43 u44 u45 u46 u47 u48 u49
      obtain ⟨i, A', c', l', hv, hH, hl', hi⟩ := hI
      subst hH
      cases hv
      refine sa ?_
      refine AW.seq ?_
      refine AW.seq ?_
      refine AW.region ?_
      refine st V.move ?_
      refine st V.move ?_
      refine st V.len ?_
      refine st V.lss ?_
      refine sn ?_
      refine cond (fun h3 => ?_) (fun h3 => ?_)
      ·
        have k3 := bp h3
        refine AW.skip ?_
        refine AW.seq ?_
        refine AW.block ?_
        refine AW.seq ?_
        have z6 : i < (contF d t).length := by omega
        obtain ⟨b7, o7, hA7, e7⟩ := (ec.upI (M' := Ml)).at i z6
        have e7 : Mk Ml b7 (o7 + i * 1) (.int .i64 (contF d t)[i]) := e7
        have hrg := hcl.2 _ (List.getElem_mem z6)
        obtain ⟨p, hp⟩ : ∃ p : Nat, (contF d t)[i] = (p : Int) + 1 := ⟨((contF d t)[i] - 1).toNat, by omega⟩
        have hp0 : p < d.length := by omega
        have hcc : consF d (contF d t)[i] = d[p].cons := by rw [hp, consF_at d p hp0]
        obtain ⟨bx, ox, hAx, w0, wb0, Ax, cx, w1, ex⟩ := (hd.upD (M' := Ml)).at p hp0
        have hbx := hbig.2 p hp0
        refine AW.region ?_
        refine st V.assign ?_
        refine sn ?_
        refine AW.block ?_
        refine AW.loopL [6, 8] (27 :: 28 :: 29 :: 30 :: 31 :: 32 :: 33 :: 34 :: 35 :: 36 :: 37 :: 38 :: 39 :: 40 :: 41 :: 42 :: 43 :: 44 :: 45 :: 46 :: 47 :: 48 :: 49 :: []) (fun n vs M' H' => ∃ (j : Nat) (A' : Option Addr) (c' : Nat) (l' : List (Int × Int)), vs = [.slice A' l'.length c', .int .i64 (j : Int)] ∧ H' = .row A' l'.length c' 65 2 (l'.flatMap plC) :: H ∧ l' = placesF d ((contF d t).take i) ++ (List.range j).map (fun k : Nat => ((contF d t)[i], (k : Int))) ∧ j + n = d[p].cons.length) (d[p].cons.length) (⟨0, A', c', l', rfl, rfl, by simp [hl'], by omega⟩) ?_
        intro n1 Ml1 Hl1 iL1 u6 u8 hI1 u27 u28 u29 u30 u31 u32 u33 u34 u35 u36 u37 u38 u39 u40 u41 u42 u43 u44 u45 u46 u47 u48 u49
        obtain ⟨j, A3, c3, l3, hv, hH, hl3, hj⟩ := hI1
        subst hH
        cases hv
        refine sa ?_
        refine AW.seq ?_
        refine AW.seq ?_
        refine AW.region ?_
        refine st V.move ?_
        refine st V.move ?_
        refine st V.move ?_
        refine st V.move ?_
        refine st (V.ib i rfl z6 hA7) ?_
        first | refine st V.ld ?_ | refine sq V.lo ?_
        refine st (V.sub64 (by omega)) ?_
        refine st (V.ib p (by omega) hp0 hAx) ?_
        refine st V.fa ?_
        first | refine st V.ld ?_ | refine sq V.lo ?_
        refine st V.len ?_
        refine st V.lss ?_
        refine sn ?_
        refine cond (fun h4 => ?_) (fun h4 => ?_)
        ·
          have k4 := bp h4
          refine AW.skip ?_
          refine AW.seq ?_
          refine AW.block ?_
          have hpb := places_bd d hbig.2 ((contF d t).take i)
          rw [List.length_take] at hpb
          have hln : l3.length ≤ 10000 := by rw [hl3]; simp; omega
          refine AW.region ?_
          refine st V.move ?_
          refine st V.move ?_
          refine st V.move ?_
          refine st (V.ib i rfl z6 hA7) ?_
          first | refine st V.ld ?_ | refine sq V.lo ?_
          refine st V.move ?_
          refine st (V.build (cells := [.int .i64 (contF d t)[i], .int .i64 (j : Int)]) rfl) ?_
          refine se (S.lit1 (by rfl) (by decide) ?_); intro g48
          refine se (S.ap1 (by rfl) (by omega) (by omega) ?_)
          intro A5 c5
          refine st V.assign ?_
          refine sn ?_
          refine AW.region ?_
          refine st V.move ?_
          refine st (V.add64 (by omega)) ?_
          refine st V.assign ?_
          refine sn ?_
          repeat with_reducible refine inb_normal ?_
          refine thn_normal ?_
          refine rnd (n1 - 1) _ (by omega) (List.Sublist.refl _) ⟨j + 1, A5, c5, l3 ++ [((contF d t)[i], (j : Int))], by simp, by simp [plC], ?_, by omega⟩
          rw [hl3, List.append_assoc, List.range_succ, List.map_append]; rfl
        ·
          have k4 := bp h4
          refine AW.exit ?_
          repeat with_reducible refine thn_exit ?_
          refine inb_exit ?_
          refine AW.region ?_
          refine st V.move ?_
          refine st (V.add64 (by omega)) ?_
          refine st V.assign ?_
          refine sn ?_
          repeat with_reducible refine inb_normal ?_
          refine thn_normal ?_
          refine rnd (n - 1) _ (by omega) (List.Sublist.refl _) ⟨i + 1, A3, c3, l3, by simp, rfl, ?_, by omega⟩
          rw [hl3, take_succ _ _ z6, placesF, placesF, List.flatMap_append, List.flatMap_cons, List.flatMap_nil, List.append_nil, show j = (consF d (contF d t)[i]).length by rw [hcc]; omega]
      ·
        have k3 := bp h3
        refine AW.exit ?_
        repeat with_reducible refine thn_exit ?_
        refine inb_exit ?_
        refine AW.seq ?_
        refine AW.kp 0 fun Mk ik hk => ?_
        refine AW.region ?_
        refine st V.move ?_
        refine st V.assign ?_
        refine sn ?_
        refine AW.ret ?_
        repeat with_reducible first | refine thn_ret ?_ | refine inb_ret ?_
        refine fin (Res.i1 rfl) ?_
        have e : l' = placesF d (contF d t) := by rw [hl', List.take_of_length_le (by omega)]
        have hpb := places_bd d hbig.2 (contF d t)
        rw [← e] at hpb
        refine ⟨_, List.Sublist.refl _, A', c', ?_, ?_, rfl⟩
        · rw [hof, ← e]
        · rw [hof, ← e]; exact hk.places rfl (by omega)
  ·
    have k1 := bp h1
    refine off rfl h1 ?_
    refine off rfl h1 ?_
    refine off rfl h1 ?_
    refine st (V.pT h1) ?_
    refine sn ?_
    refine cond (fun _ => ?_) (fun h => by cases h)
    refine AW.seq ?_
    refine AW.region ?_
    refine st V.assign ?_
    refine sn ?_
    refine AW.ret ?_
    repeat with_reducible first | refine thn_ret ?_ | refine inb_ret ?_
    refine fin (Res.i1 rfl) ?_
    have e : ofF d t = [] := by rw [ofF, if_neg (fun h => k1 h.1)]
    refine ⟨_, List.Sublist.refl _, ?_⟩
    rw [e]; exact ⟨none, 0, rfl, RdS.nil, rfl⟩
end Go.Proofs.YtieaiheejhmbfaaGreatDoor.ML
/- Walks of functions of the program, in the abstract layer. No conditions. -/
namespace Go.Proofs.YtieaiheejhmbfaaGreatDoor.ML
open Go.RowKit
set_option linter.unusedVariables false
set_option linter.unusedSimpArgs false
set_option maxHeartbeats 1600000 in
set_option synthInstance.maxHeartbeats 400000 in
set_option synthInstance.maxSize 100000 in
set_option maxRecDepth 100000 in
theorem r_count_c (d : List DT) (ps : List (Int × Int)) (hnd : ps.Nodup) (hpb : ps.length ≤ 100000) (g cp : Nat) (Ap : Option Addr) : ∀ (z : Nat) (v : VT), SizeOf.sizeOf v < z → ∀ (t : Int), TyV d t v → ∀ (out : List Int), out.length = ps.length → ∀ (M : Mem) (H : Heap) (Ad : Option Addr) (cd : Nat) (A : Option Addr) (c : Nat), RdS 2 (RdD M) Ad cd d → VV M A c v → RdS 2 (RdP M) Ap cp ps →
    AC Tryz.prog 41 [.slice Ad d.length cd, .int .i64 t, .agg #[.int .i64 v.num, .int .i64 v.con, .slice A v.args.length c], .slice Ap ps.length cp, .slice (some ⟨g, 0, none⟩) ps.length ps.length] M (.row (some ⟨g, 0, none⟩) ps.length ps.length 3 1 ((out).map (.int .i64)) :: H) fun r _ H' => r = .tuple #[] ∧ H' = .row (some ⟨g, 0, none⟩) ps.length ps.length 3 1 ((fV d (countF ps) t v out).map (.int .i64)) :: H
  | 0, _, hz, _, _, _, _ => by omega
  | z + 1, v, hz, t, hty, out, ho => by
    intro M H Ad cd A c hd hv hp
    have hbd := hd.bd
    have hba : v.args.length ≤ 140737488355328 := RdS.bd hv
    refine AC.of (n := 69) Tryz.func41 rfl rfl ?_
    dsimp only [List.replicate, List.cons_append, List.nil_append]
    refine AW.seq ?_
    refine AW.region ?_
    refine se (S.boxM ?_); intro b7 M7 i7 j7
    refine sn ?_
    refine AW.seq ?_
    refine AW.seq ?_
    refine AW.region ?_
    refine st V.move ?_
    refine st V.eql ?_
    refine sn ?_
    refine cond (fun h1 => ?_) (fun h1 => ?_)
    ·
      have k1 := bp h1
      refine AW.ret ?_
      repeat with_reducible first | refine thn_ret ?_ | refine inb_ret ?_
      refine fin (Res.zero rfl) ?_
      obtain rfl : t = 0 := by simpa using k1
      refine ⟨_, List.Sublist.refl _, rfl, ?_⟩
      rw [fV_eq, if_pos rfl, countF, if_neg (fun h => h.2 rfl)]
    ·
      have k1 := bp h1
      obtain ⟨p, k, hp0, hk', rfl, hnum, hk, hal, hch⟩ := hty.conE k1
      obtain ⟨b8, o8, hA8, i0, ib0, A8, c8, i1, i2⟩ := (hd.upD (M' := M7)).at p hp0
      have hb8 := i2.bd
      obtain ⟨b9, o9, hA9, e0, eb, A9, c9, e1, e2⟩ := i2.at k hk'
      have hb9 := e2.bd
      refine AW.skip ?_
      refine AW.seq ?_
      refine AW.seq ?_
      refine AW.region ?_
      refine st V.assign ?_
      refine sn ?_
      refine AW.block ?_
      refine AW.loopL [10] (15 :: 16 :: 17 :: 18 :: 19 :: 20 :: 21 :: 22 :: 23 :: 24 :: 25 :: 26 :: 27 :: 28 :: 29 :: 30 :: 31 :: 32 :: 33 :: 34 :: 35 :: 36 :: 37 :: 38 :: 39 :: 40 :: 41 :: 42 :: 43 :: []) (fun n vs M' H' => ∃ i : Nat, vs = [.int .i64 (i : Int)] ∧ H' = .row (some ⟨g, 0, none⟩) ps.length ps.length 3 1 ((stepF ps out ((p : Int) + 1, v.con) i).map (.int .i64)) :: H ∧ i + n = ps.length) (ps.length) (⟨0, rfl, by rw [stepF_0], by omega⟩) ?_
      intro n Ml Hl iL u10 hI u15 u16 u17 u18 u19 u20 u21 u22 u23 u24 u25 u26 u27 u28 u29 u30 u31 u32 u33 u34 u35 u36 u37 u38 u39 u40 u41 u42 u43
      obtain ⟨i, hv', hH, hi⟩ := hI
      subst hH
      cases hv'
      have hsl := stepF_len ps out ((p : Int) + 1, v.con) i
      refine sa ?_
      refine AW.seq ?_
      refine AW.seq ?_
      refine AW.region ?_
      refine st V.move ?_
      refine st V.move ?_
      refine st V.len ?_
      refine st V.lss ?_
      refine sn ?_
      refine cond (fun h2 => ?_) (fun h2 => ?_)
      ·
        have k2 := bp h2
        refine AW.skip ?_
        refine AW.seq ?_
        refine AW.block ?_
        refine AW.seq ?_
        have z6 : i < ps.length := by omega
        obtain ⟨b5, o5, hA5, p0, p1⟩ := (hp.upP (M' := Ml)).at i z6
        refine AW.regionD mx false [0, 1, 2, 3, 4, 5, 6, 7, 8, 9, 10, 11, 12, 13, 14, 15, 16] [[], [], [0, 1], [0, 1, 2], [0, 1, 2, 3], [], [0, 1, 2, 3, 4, 5], [0, 1, 2, 3, 4, 5, 6], [0, 1, 2, 3, 4, 5, 6, 7], [0, 1, 2, 3, 4, 5, 6, 7], [0, 1, 2, 3, 4, 5, 6, 7, 8, 9], [0, 1, 2, 3, 4, 5, 6, 7, 8, 9, 10], [0, 1, 2, 3, 4, 5, 6, 7, 8, 9, 10, 11], [0, 1, 2, 3, 4, 5, 6, 7], [0, 1, 2, 3, 4, 5, 6, 7, 13], [0, 1, 2, 3, 4, 5, 6, 7, 8, 9, 10, 11, 12, 13, 14], [0, 1, 2, 3, 4, 5, 6, 7, 8, 9, 10, 11, 12, 13, 14, 15]] (by kernel_rfl) ?_
        refine D.p rfl rfl V.move ?_
        refine D.p rfl rfl V.move ?_
        refine D.p rfl rfl (V.ib i rfl z6 hA5) ?_
        refine D.p rfl rfl V.fa0 ?_
        first | refine D.p rfl rfl V.ld ?_ | refine D.q rfl rfl V.lo ?_
        refine D.p rfl rfl V.move ?_
        refine D.p rfl rfl V.eql ?_
        refine D.p rfl rfl V.move ?_
        refine D.onoff true false rfl 28 (fun h3 => ?_) (fun h3 => ?_)
        ·
          have k3 := bp h3
          refine D.pOn rfl rfl h3 rfl V.move ?_
          refine D.pOn rfl rfl h3 rfl V.move ?_
          refine D.pOn rfl rfl h3 rfl (V.ib i rfl z6 hA5) ?_
          refine D.pOn rfl rfl h3 rfl V.fa ?_
          first | refine D.pOn rfl rfl h3 rfl V.ld ?_ | refine D.qOn rfl rfl h3 rfl V.lo ?_
          refine D.pOn rfl rfl h3 rfl V.faz ?_
          first | refine D.pOn rfl rfl h3 rfl V.ld ?_ | refine D.qOn rfl rfl h3 rfl V.lo ?_
          refine D.pOn rfl rfl h3 rfl V.eql ?_
          refine D.p rfl rfl (V.pT h3) ?_
          refine D.nl ?_
          refine cond (fun h4 => ?_) (fun h4 => ?_)
          ·
            have k4 := bp h4
            refine AW.region ?_
            refine st V.move ?_
            refine st V.move ?_
            refine st (V.ib i rfl z6 rfl) ?_
            refine sq (V.lr (v := .int .i64 ((stepF ps out ((p : Int) + 1, v.con) i).getD i 0)) 0 rfl (by simp [List.getD, show i < (stepF ps out ((p : Int) + 1, v.con) i).length by omega])) ?_
            refine st (V.add) ?_
            refine st (V.ib i rfl z6 rfl) ?_
            refine se (S.storeR 0 rfl (by simp; omega) ?_)
            refine sn ?_
            refine AW.region ?_
            refine st V.move ?_
            refine st (V.add64 (by omega)) ?_
            refine st V.assign ?_
            refine sn ?_
            repeat with_reducible refine inb_normal ?_
            refine thn_normal ?_
            have e9 := stepF_hit hnd out ((p : Int) + 1, v.con) i z6 (Prod.ext k3 k4)
            refine rnd (n - 1) _ (by omega) (List.Sublist.refl _) ⟨i + 1, by simp, ?_, by omega⟩
            rw [e9]; simp [List.map_set]
          ·
            have k4 := bp h4
            refine AW.skip ?_
            refine AW.region ?_
            refine st V.move ?_
            refine st (V.add64 (by omega)) ?_
            refine st V.assign ?_
            refine sn ?_
            repeat with_reducible refine inb_normal ?_
            refine thn_normal ?_
            have e9 := stepF_miss (ps := ps) out ((p : Int) + 1, v.con) i z6 (fun h => k4 (congrArg Prod.snd h))
            exact rnd (n - 1) _ (by omega) (List.Sublist.refl _) ⟨i + 1, by simp, by rw [e9], by omega⟩
        ·
          have k3 := bp h3
          refine D.off rfl rfl (by rw [h3]; decide) ?_
          refine D.off rfl rfl (by rw [h3]; decide) ?_
          refine D.off rfl rfl (by rw [h3]; decide) ?_
          refine D.off rfl rfl (by rw [h3]; decide) ?_
          refine D.off rfl rfl (by rw [h3]; decide) ?_
          refine D.off rfl rfl (by rw [h3]; decide) ?_
          refine D.off rfl rfl (by rw [h3]; decide) ?_
          refine D.off rfl rfl (by rw [h3]; decide) ?_
          refine D.p rfl rfl (V.pF h3) ?_
          refine D.nl ?_
          refine cond (fun h => by cases h) (fun _ => ?_)
          refine AW.skip ?_
          refine AW.region ?_
          refine st V.move ?_
          refine st (V.add64 (by omega)) ?_
          refine st V.assign ?_
          refine sn ?_
          repeat with_reducible refine inb_normal ?_
          refine thn_normal ?_
          have e9 := stepF_miss (ps := ps) out ((p : Int) + 1, v.con) i z6 (fun h => k3 (congrArg Prod.fst h))
          exact rnd (n - 1) _ (by omega) (List.Sublist.refl _) ⟨i + 1, by simp, by rw [e9], by omega⟩
      ·
        have k2 := bp h2
        refine AW.exit ?_
        repeat with_reducible refine thn_exit ?_
        refine inb_exit ?_
        refine AW.seq ?_
        rw [stepF_end out ((p : Int) + 1) v.con (by omega) i (by omega)]
        refine AW.regionD mx false [0, 1, 2, 3, 4, 5, 6, 7, 8, 9, 10, 11] [[], [], [1], [0, 1, 2], [0, 1, 2, 3], [0, 1, 2, 3, 4], [], [6], [0, 1, 2, 3, 4, 5, 6, 7], [0, 1, 2, 3, 4, 5, 6, 7, 8], [0, 1, 2, 3, 4, 5, 6, 7, 8, 9], [0, 1, 2, 3, 4, 5, 6, 7, 8, 9, 10]] (by kernel_rfl) ?_
        refine D.p rfl rfl V.move ?_
        refine D.p rfl rfl V.move ?_
        refine D.p rfl rfl (V.sub64 (by omega)) ?_
        refine D.p rfl rfl (V.ib p (by omega) hp0 hA8) ?_
        refine D.p rfl rfl V.fa ?_
        first | refine D.p rfl rfl V.ld ?_ | refine D.q rfl rfl V.lo ?_
        refine D.p rfl rfl V.faz ?_
        first | refine D.p rfl rfl V.ld ?_ | refine D.q rfl rfl V.lo ?_
        refine D.p rfl rfl (V.ib k hk hk' hA9) ?_
        refine D.p rfl rfl V.fa ?_
        first | refine D.p rfl rfl V.ld ?_ | refine D.q rfl rfl V.lo ?_
        refine D.p rfl rfl V.assign ?_
        refine D.nl ?_
        refine AW.seq ?_
        refine AW.region ?_
        refine st V.assign ?_
        refine sn ?_
        refine AW.block ?_
        refine AW.loopL [12] (55 :: 56 :: 57 :: 58 :: 59 :: 60 :: 61 :: 62 :: 63 :: 64 :: 65 :: 66 :: 67 :: 68 :: 69 :: 70 :: 71 :: 72 :: 73 :: []) (fun n vs M' H' => ∃ (i : Nat) (o1 : List Int), vs = [.int .i64 (i : Int)] ∧ H' = .row (some ⟨g, 0, none⟩) ps.length ps.length 3 1 ((o1).map (.int .i64)) :: H ∧ i + n = v.args.length ∧ o1.length = ps.length ∧ fV d (countF ps) ((p : Int) + 1) v out = fL d (countF ps) (d[p].cons[k].fields.drop i) (v.args.drop i) o1) (v.args.length) (⟨0, countF ps out ((p : Int) + 1) v.con, rfl, rfl, by omega, by rw [countF_len, ho], by rw [fV_eq, if_neg (by omega), fldV_at d p hp0 v k hk hk']; rfl⟩) ?_
        intro n1 Ml1 Hl1 iL1 u12 hI1 u55 u56 u57 u58 u59 u60 u61 u62 u63 u64 u65 u66 u67 u68 u69 u70 u71 u72 u73
        obtain ⟨i, o1, hv', hH, hi, ho1, hw⟩ := hI1
        subst hH
        cases hv'
        refine sa ?_
        refine AW.seq ?_
        refine AW.seq ?_
        refine AW.region ?_
        refine st V.move ?_
        refine st V.move ?_
        refine st V.len ?_
        refine st V.lss ?_
        refine sn ?_
        refine cond (fun h6 => ?_) (fun h6 => ?_)
        ·
          have k6 := bp h6
          refine AW.skip ?_
          refine AW.seq ?_
          refine AW.block ?_
          have z6 : i < v.args.length := by omega
          have z7 : i < d[p].cons[k].fields.length := by omega
          obtain ⟨ba, oa, hAa, ea⟩ := (VV.up (M' := Ml1) hv).at i z6
          obtain ⟨Ax, cx, x0, x1, x2, xs⟩ := ea.get
          obtain ⟨b5, o5, hA5, e5⟩ := (e2.upI (M' := Ml1)).at i z7
          have e5 : Mk Ml1 b5 (o5 + i * 1) (.int .i64 d[p].cons[k].fields[i]) := e5
          refine AW.regionD mx true [0, 1, 2, 3, 4, 5, 6, 7, 8, 9, 10, 11, 12] [[], [], [], [1, 2], [1, 2, 3], [], [5], [], [5, 6, 7], [5, 6, 7, 8], [], [], [0, 1, 2, 3, 4, 5, 6, 7, 8, 9, 10, 11]] (by kernel_rfl) ?_
          refine D.p rfl rfl V.move ?_
          refine D.p rfl rfl V.move ?_
          refine D.p rfl rfl V.move ?_
          refine D.p rfl rfl (V.ib i rfl z7 hA5) ?_
          refine D.p rfl rfl V.ld ?_
          refine D.p rfl rfl V.faz ?_
          refine D.p rfl rfl V.ld ?_
          refine D.p rfl rfl V.move ?_
          refine D.p rfl rfl (V.ib i rfl z6 hAa) ?_
          refine D.p rfl rfl V.ldA ?_
          refine D.p rfl rfl V.move ?_
          refine D.p rfl rfl V.move ?_
          refine D.e rfl rfl (S.call ?_)
          refine (r_count_c d ps hnd hpb g cp Ap z v.args[i] (by have := List.sizeOf_lt_of_mem (List.getElem_mem z6); cases v; simp [VT.args] at *; omega) _ (hch i z6 z7) o1 ho1 _ H Ad cd Ax cx hd.upD (VV.up (x := v.args[i]) xs) hp.upP).use ?_
          rintro v N G iz ⟨rfl, hG⟩
          obtain rfl := hG
          refine D.nl ?_
          refine AW.region ?_
          refine st V.move ?_
          refine st (V.add64 (by omega)) ?_
          refine st V.assign ?_
          refine sn ?_
          repeat with_reducible refine inb_normal ?_
          refine thn_normal ?_
          refine rnd (n1 - 1) _ (by omega) (List.Sublist.refl _) ⟨i + 1, _, by simp, rfl, by omega, ?_, ?_⟩
          · rw [fV_len d (countF ps) (fun o => o.length = ps.length) (fun s t con h => by rw [countF_len]; exact h) _ _ _ ho1]
          · rw [hw, fL_at d _ _ _ _ i z6 z7]
        ·
          have k6 := bp h6
          refine AW.exit ?_
          repeat with_reducible refine thn_exit ?_
          refine inb_exit ?_
          repeat with_reducible refine inb_normal ?_
          refine fin0 (Res.zero rfl) ?_
          refine ⟨_, List.Sublist.refl _, rfl, ?_⟩
          rw [hw, fL_end d _ _ _ _ i (by omega)]
set_option maxHeartbeats 1600000 in
set_option synthInstance.maxHeartbeats 400000 in
set_option synthInstance.maxSize 100000 in
set_option maxRecDepth 100000 in
theorem r_counts_c (M : Mem) (H : Heap) (Ad : Option Addr) (cd : Nat) (d : List DT) (hd : RdS 2 (RdD M) Ad cd d) (t : Int) (A : Option Addr) (c : Nat) (v : VT) (hv : VV M A c v) :
    AC Tryz.prog 17 [.slice Ad d.length cd, .int .i64 t, .agg #[.int .i64 v.num, .int .i64 v.con, .slice A v.args.length c]] M H fun r M' H' => ∃ A' c', r = .tuple #[.slice A' (countsF d t v).1.length c', .int .i64 (countsF d t v).2] ∧ RdS 1 (RdI M') A' c' (countsF d t v).1 ∧ H' = H := by
  refine AC.of (n := 28) Tryz.func17 rfl rfl ?_
  dsimp only [List.replicate, List.cons_append, List.nil_append]
  refine AW.seq ?_
  refine AW.region ?_
  refine se (S.boxM ?_); intro b5 M5 i5 j5
  refine st V.assign ?_
  refine st V.assign ?_
  refine sn ?_
  refine AW.seq ?_
  refine AW.seq ?_
  refine AW.region ?_
  refine st V.move ?_
  refine st V.move ?_
  first | refine st V.ldA ?_ | refine sq V.loA ?_
  refine se (S.call ?_)
  refine (r_vcheck_c _ _ Ad cd d hd.upD t A c v (VV.up hv)).use ?_
  rintro v1 N1 G1 iz1 ⟨rfl, hG⟩
  obtain rfl := hG.symm
  refine st V.assign ?_
  refine sn ?_
  refine AW.seq ?_
  refine AW.region ?_
  refine st V.move ?_
  refine st V.neq ?_
  refine sn ?_
  refine cond (fun h1 => ?_) (fun h1 => ?_)
  ·
    have k1 := bp h1
    refine AW.seq ?_
    refine AW.region ?_
    refine st V.move ?_
    refine st V.assign ?_
    refine st V.assign ?_
    refine sn ?_
    refine AW.ret ?_
    repeat with_reducible first | refine thn_ret ?_ | refine inb_ret ?_
    refine fin (Res.i2 rfl) ?_
    have e : countsF d t v = ([], (cellsF d t v).2) := by rw [countsF, if_pos k1]
    refine ⟨_, List.Sublist.refl _, none, 0, by rw [e]; rfl, by rw [e]; exact RdS.nil, rfl⟩
  ·
    have k1 := bp h1
    refine AW.skip ?_
    refine AW.seq ?_
    have hck := cells_ok k1
    refine AW.region ?_
    refine st V.move ?_
    refine st V.move ?_
    refine se (S.call ?_)
    refine (r_of_c _ _ Ad cd d hd.upD t).use ?_
    rintro v4 N4 G4 iz4 ⟨Ap, cp, rfl, ep, hG⟩
    obtain rfl := hG.symm
    have hbp := ep.bd
    have hbo := of_bd d t
    refine st V.assign ?_
    refine sn ?_
    refine AW.seq ?_
    refine AW.region ?_
    refine st V.move ?_
    refine st V.len ?_
    refine se (S.make (k := .i64) (k' := .i64) (n := (ofF d t).length) (by omega) (by omega) ?_)
    intro g40
    rw [show ((madeCells (Value.int .i64 0).cells ((ofF d t).length * 1)).toList) = _ from by rw [Nat.mul_one, madeCells_int]]
    refine st V.assign ?_
    refine sn ?_
    refine AW.seq ?_
    refine AW.region ?_
    refine st V.move ?_
    refine st V.move ?_
    first | refine st V.ldA ?_ | refine sq V.loA ?_
    refine st V.move ?_
    refine st V.move ?_
    refine se (S.call ?_)
    refine (r_count_c d (ofF d t) (of_nodup d t) (by omega) g40 cp Ap (SizeOf.sizeOf v + 1) v (by omega) t (tyV_of d hck.1 (fun (_ : Unit) _ _ => ()) (SizeOf.sizeOf v + 1) t v 0 () (by omega) ⟨hck.2.1, hck.2.2.1⟩ (cells_w k1)) (List.replicate (ofF d t).length 0) (by simp) _ H Ad cd A c hd.upD (VV.up hv) ep.upP).use ?_
    rintro v6 N6 G6 iz6 ⟨rfl, hG⟩
    obtain rfl := hG
    refine sn ?_
    refine AW.seq ?_
    refine AW.kp 0 fun Mk ik hk => ?_
    refine AW.region ?_
    refine st V.move ?_
    refine st V.assign ?_
    refine st V.assign ?_
    refine sn ?_
    refine AW.ret ?_
    repeat with_reducible first | refine thn_ret ?_ | refine inb_ret ?_
    refine fin (Res.i2 rfl) ?_
    have hl := fV_len d (countF (ofF d t)) (fun out => out.length = (ofF d t).length) (fun s t con h => by rw [countF_len]; exact h) t v (List.replicate (ofF d t).length 0) (by simp)
    have e : countsF d t v = (fV d (countF (ofF d t)) t v (List.replicate (ofF d t).length 0), 0) := counts_fV k1
    refine ⟨_, (by repeat first | exact List.Sublist.refl _ | apply List.Sublist.cons), some ⟨g40, 0, none⟩, (ofF d t).length, ?_, ?_, rfl⟩
    · rw [e]; simp only [hl]
    · rw [e]; exact hk.ints hl (by omega)
end Go.Proofs.YtieaiheejhmbfaaGreatDoor.ML
