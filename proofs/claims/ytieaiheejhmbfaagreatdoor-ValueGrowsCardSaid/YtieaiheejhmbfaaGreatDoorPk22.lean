/- The plain laws of the reference's marks: rounds over all types. No conditions. -/
import Derived.Test.YtieaiheejhmbfaaGreatDoorPk5
import Derived.Test.YtieaiheejhmbfaaGreatDoorPk11
import Derived.Test.YtieaiheejhmbfaaGreatDoorPk9
namespace Go.Proofs.YtieaiheejhmbfaaGreatDoor.ML
open Go.RowKit
set_option linter.unusedVariables false
set_option linter.unusedSimpArgs false
theorem cf_init (n : Nat) : cf ((List.replicate (n + 1) false).set 0 true) = n := by
  simp [cf, List.replicate_succ]
theorem set_getD {mk : List Bool} {k : Nat} (h : k < mk.length) : mk.set k (mk.getD k false) = mk := by
  apply List.ext_getElem
  · simp
  · intro i h1 h2
    rw [List.getElem_set]
    split
    · rename_i e; subst e; simp [List.getD, h]
    · rfl
/-- Within one round over all types: the marks mk stood at its head; types below i are done, of type i the first k constructors. -/
def Pr (d : List DT) (mk mk2 : List Bool) (i k : Nat) : Prop :=
  Sound d mk2 ∧ (Closed d mk → mk2 = mk) ∧
  ((mk2 = mk ∧ (∀ k' (h : k' < d.length), k' < i → rdy mk d[k'] = true → mk.getD (k' + 1) false = true) ∧ (∀ (h : i < d.length) k' (h' : k' < d[i].cons.length), k' < k → fOk mk d[i].cons[k'] = true → mk.getD (i + 1) false = true)) ∨ cf mk2 < cf mk)
theorem Pr.init {d : List DT} {mk : List Bool} (h : Sound d mk) : Pr d mk mk 0 0 := ⟨h, fun _ => rfl, .inl ⟨rfl, fun k' _ h => by omega, fun _ k' _ h => by omega⟩⟩
theorem Pr.next {d : List DT} {mk mk1 : List Bool} {i k : Nat} (h : Pr d mk mk1 i k) (hi : i < d.length) (hk : k = d[i].cons.length) : Pr d mk mk1 (i + 1) 0 := by
  obtain ⟨h1, h2, h3⟩ := h
  refine ⟨h1, h2, ?_⟩
  rcases h3 with ⟨e, h4, h5⟩ | h3
  · refine .inl ⟨e, fun k' hk' hlt hr => ?_, fun _ k' _ h => by omega⟩
    rcases Nat.lt_or_ge k' i with h | h
    · exact h4 k' hk' h hr
    · obtain rfl : k' = i := by omega
      unfold rdy at hr
      rw [List.any_eq_true] at hr
      obtain ⟨c, hc, hr⟩ := hr
      obtain ⟨j, hj, rfl⟩ := List.getElem_of_mem hc
      exact h5 hi j hj (by omega) hr
  · exact .inr h3
theorem Pr.step {d : List DT} {mk mk2 : List Bool} {i k : Nat} (hT : TypedP d) (h : Pr d mk mk2 i k) (hi : i < d.length) (hk : k < d[i].cons.length) :
    Pr d mk (mk2.set (i + 1) (mk2.getD (i + 1) false || fOk mk2 d[i].cons[k])) i (k + 1) := by
  obtain ⟨h1, h2, h3⟩ := h
  have hl : i + 1 < mk2.length := by rw [h1.1]; omega
  cases hb : mk2.getD (i + 1) false with
  | true =>
    have e : mk2.set (i + 1) (true || fOk mk2 d[i].cons[k]) = mk2 := by have := set_getD hl; rw [hb] at this; simpa using this
    rw [e]
    refine ⟨h1, h2, ?_⟩
    rcases h3 with ⟨rfl, h4, h5⟩ | h3
    · exact .inl ⟨rfl, h4, fun _ k' hk' _ _ => hb⟩
    · exact .inr h3
  | false =>
    cases ho : fOk mk2 d[i].cons[k] with
    | false =>
      have e : mk2.set (i + 1) (false || false) = mk2 := by have := set_getD hl; rw [hb] at this; simpa using this
      rw [e]
      refine ⟨h1, h2, ?_⟩
      rcases h3 with ⟨rfl, h4, h5⟩ | h3
      · refine .inl ⟨rfl, h4, fun _ k' hk' hlt hr => ?_⟩
        rcases Nat.lt_or_ge k' k with h | h
        · exact h5 hi k' hk' h hr
        · obtain rfl : k' = k := by omega
          rw [ho] at hr; cases hr
      · exact .inr h3
    | true =>
      have hr : rdy mk2 d[i] = true := by unfold rdy; rw [List.any_eq_true]; exact ⟨_, List.getElem_mem hk, ho⟩
      have hlt := cf_set hl hb
      refine ⟨h1.set hT hi hr, fun hc => ?_, .inr ?_⟩
      · obtain rfl := h2 hc
        have := hc i hi hr
        rw [hb] at this; cases this
      · show cf (mk2.set (i + 1) true) < cf mk
        rcases h3 with ⟨rfl, _⟩ | h3 <;> omega
theorem Pr.done {d : List DT} {mk mk1 : List Bool} {r : Nat} (h : Pr d mk mk1 d.length 0) (hr : Closed d mk ∨ cf mk + r ≤ d.length) : Closed d mk1 ∨ cf mk1 + (r + 1) ≤ d.length := by
  obtain ⟨h1, h2, h3⟩ := h
  rcases h3 with ⟨rfl, h4, _⟩ | h3
  · exact .inl fun i hi hr => h4 i hi hi hr
  · rcases hr with hc | hr
    · have := h2 hc; subst this; omega
    · exact .inr (by omega)
def allF (mk : List Bool) (l : List Int) : Bool := !(l.any fun t => !mk.getD t.toNat false)
theorem allF_succ (mk : List Bool) (l : List Int) (j : Nat) (h : j < l.length) : allF mk (l.take (j + 1)) = (allF mk (l.take j) && mk.getD l[j].toNat false) := by
  unfold allF
  rw [take_succ _ _ h, List.any_append]
  simp
theorem allF_all (mk : List Bool) (c : CT) (j : Nat) (h : c.fields.length ≤ j) : allF mk (c.fields.take j) = fOk mk c := by
  unfold allF fOk; rw [List.take_of_length_le h]
theorem fin_all {d : List DT} {mk : List Bool} (hs : Sound d mk) (hc : Closed d mk) (h : ∀ k, k < mk.length → mk.getD k false = true) : FinP d := by
  rw [← fin_marks hs hc]
  simp only [Bool.not_eq_true', List.any_eq_false, Bool.not_eq_true]
  intro x hx
  obtain ⟨k, hk, rfl⟩ := List.getElem_of_mem hx
  have := h k hk
  simp [List.getD, hk] at this
  simp [this]
theorem fin_not {d : List DT} {mk : List Bool} (hs : Sound d mk) (hc : Closed d mk) (k : Nat) (hk : k < mk.length) (h : mk.getD k false = false) : ¬ FinP d := by
  rw [← fin_marks hs hc]
  simp only [Bool.not_eq_true', Bool.not_eq_false]
  rw [List.any_eq_true]
  exact ⟨mk[k], List.getElem_mem hk, by simp [List.getD, hk] at h; simp [h]⟩
theorem fldV_0 (d : List DT) (v : VT) : fldV d 0 v = [] := by unfold fldV consF; simp
theorem badV_con {d : List DT} {t : Int} {v : VT} (ht : 0 ≤ t ∧ t ≤ d.length) (hb : badV d t v = false) (h0 : t ≠ 0) : ∃ (p k : Nat) (hp : p < d.length) (hk : k < d[p].cons.length), t = (p : Int) + 1 ∧ v.con = k ∧ fldV d t v = d[p].cons[k].fields ∧ v.args.length = d[p].cons[k].fields.length := by
  obtain ⟨p, rfl⟩ : ∃ p : Nat, t = (p : Int) + 1 := ⟨(t - 1).toNat, by omega⟩
  have hp : p < d.length := by omega
  rw [badV_at d p hp, decide_eq_false_iff_not] at hb
  obtain ⟨k, hk⟩ : ∃ k : Nat, v.con = (k : Int) := ⟨v.con.toNat, by omega⟩
  have hk' : k < d[p].cons.length := by omega
  have hg : (d[p].cons.getD v.con.toNat ⟨⟨#[]⟩, []⟩).fields.length = d[p].cons[k].fields.length := by rw [hk]; simp [List.getD, hk']
  exact ⟨p, k, hp, hk', rfl, hk, fldV_at d p hp v k hk hk', by omega⟩
theorem badV_int {d : List DT} {v : VT} (hb : badV d 0 v = false) : v.args = [] := by
  unfold badV at hb
  rw [if_pos rfl, decide_eq_false_iff_not] at hb
  exact List.eq_nil_of_length_eq_zero (by omega)
theorem fldV_len {d : List DT} {t : Int} {v : VT} (ht : 0 ≤ t ∧ t ≤ d.length) (hb : badV d t v = false) : (fldV d t v).length = v.args.length := by
  by_cases h0 : t = 0
  · subst h0; rw [fldV_0, badV_int hb]; rfl
  · obtain ⟨p, k, hp, hk, rfl, h1, h2, h3⟩ := badV_con ht hb h0
    rw [h2, h3]
theorem fldV_rng {d : List DT} (hT : TypedP d) {t : Int} {v : VT} (ht : 0 ≤ t ∧ t ≤ d.length) (hb : badV d t v = false) : ∀ f ∈ fldV d t v, 0 ≤ f ∧ f ≤ d.length := by
  by_cases h0 : t = 0
  · subst h0; rw [fldV_0]; intro f hf; simp at hf
  · obtain ⟨p, k, hp, hk, rfl, h1, h2, h3⟩ := badV_con ht hb h0
    rw [h2]; exact hT p hp k hk
theorem wV_u (d : List DT) {t : Int} {v : VT} (ht : 0 ≤ t ∧ t ≤ d.length) (hb : badV d t v = false) (n : Nat) : wV d (fun (_ : Unit) _ _ => ()) t v n () = if 0 < v.args.length ∧ n = 65536 then (18, n, ()) else wL d (fun (_ : Unit) _ _ => ()) (fldV d t v) v.args (if 0 < v.args.length then n + 1 else n) () := by
  rw [wV_eq, hb, if_neg (by decide)]
  by_cases h0 : t = 0
  · subst h0
    rw [if_pos rfl, badV_int hb]
    simp [wL]
  · rw [if_neg h0]
end Go.Proofs.YtieaiheejhmbfaaGreatDoor.ML
/- Walks of functions of the program, in the abstract layer. No conditions. -/
namespace Go.Proofs.YtieaiheejhmbfaaGreatDoor.ML
open Go.RowKit
set_option linter.unusedVariables false
set_option linter.unusedSimpArgs false
set_option maxHeartbeats 1600000 in
set_option synthInstance.maxHeartbeats 400000 in
set_option synthInstance.maxSize 100000 in
set_option maxRecDepth 100000 in
theorem r_finite_c (M : Mem) (H : Heap) (A : Option Addr) (c : Nat) (d : List DT) (hd : RdS 2 (RdD M) A c d) (hT : TypedP d) :
    AC Tryz.prog 66 [.slice A d.length c] M H fun v _ H' => v = .bool (tt (FinP d)) ∧ H' = H := by
  refine AC.of (n := 86) Tryz.func66 rfl rfl ?_
  dsimp only [List.replicate, List.cons_append, List.nil_append]
  refine AW.seq ?_
  refine AW.region ?_
  refine st V.assign ?_
  refine sn ?_
  refine AW.seq ?_
  have hbd := hd.bd
  refine AW.region ?_
  refine st V.move ?_
  refine st V.len ?_
  refine st (V.add64 (by omega)) ?_
  refine se (S.make (k := .i64) (k' := .i64) (n := d.length + 1) (by omega) (by omega) ?_)
  intro g10
  refine st V.assign ?_
  refine sn ?_
  refine AW.seq ?_
  refine AW.region ?_
  refine st V.move ?_
  refine st (V.ib 0 rfl (by omega) rfl) ?_
  refine se (S.storeR 0 rfl (by simp [madeCells]) ?_)
  refine sn ?_
  refine AW.seq ?_
  refine AW.seq ?_
  refine AW.region ?_
  refine st V.assign ?_
  refine sn ?_
  refine AW.block ?_
  refine AW.loopL [4] (5 :: 6 :: 7 :: 8 :: 9 :: 17 :: 18 :: 19 :: 20 :: 21 :: 22 :: 23 :: 24 :: 25 :: 26 :: 27 :: 28 :: 29 :: 30 :: 31 :: 32 :: 33 :: 34 :: 35 :: 36 :: 37 :: 38 :: 39 :: 40 :: 41 :: 42 :: 43 :: 44 :: 45 :: 46 :: 47 :: 48 :: 49 :: 50 :: 51 :: 52 :: 53 :: 54 :: 55 :: 56 :: 57 :: 58 :: 59 :: 60 :: 61 :: 62 :: 63 :: 64 :: 65 :: 66 :: 67 :: 68 :: 69 :: 70 :: 71 :: 72 :: 73 :: 74 :: 75 :: []) (fun n vs M' H' => ∃ (r : Nat) (mk : List Bool), vs = [.int .i64 (r : Int)] ∧ H' = .row (some ⟨g10, 0, none⟩) (d.length + 1) (d.length + 1) 4 1 (mk.map .bool) :: H ∧ r + n = d.length + 1 ∧ Sound d mk ∧ (Closed d mk ∨ cf mk + r ≤ d.length)) (d.length + 1) (⟨0, _, rfl, by simp [madeCells_bool], by omega, Sound.init d, .inr (by rw [cf_init]; omega)⟩) ?_
  intro n Ml Hl iL u4 hI u5 u6 u7 u8 u9 u17 u18 u19 u20 u21 u22 u23 u24 u25 u26 u27 u28 u29 u30 u31 u32 u33 u34 u35 u36 u37 u38 u39 u40 u41 u42 u43 u44 u45 u46 u47 u48 u49 u50 u51 u52 u53 u54 u55 u56 u57 u58 u59 u60 u61 u62 u63 u64 u65 u66 u67 u68 u69 u70 u71 u72 u73 u74 u75
  obtain ⟨r, mk, hv, rfl, hr, hs, hcl⟩ := hI
  cases hv
  refine sa ?_
  refine AW.seq ?_
  refine AW.seq ?_
  refine AW.region ?_
  refine st V.move ?_
  refine st V.move ?_
  refine st V.len ?_
  refine st V.leq ?_
  refine sn ?_
  refine cond (fun h1 => ?_) (fun h1 => ?_)
  ·
    have k1 := bp h1
    refine AW.skip ?_
    refine AW.seq ?_
    refine AW.block ?_
    refine AW.seq ?_
    refine AW.region ?_
    refine st V.assign ?_
    refine sn ?_
    refine AW.block ?_
    refine AW.loopL [5] (6 :: 7 :: 8 :: 9 :: 23 :: 24 :: 25 :: 26 :: 27 :: 28 :: 29 :: 30 :: 31 :: 32 :: 33 :: 34 :: 35 :: 36 :: 37 :: 38 :: 39 :: 40 :: 41 :: 42 :: 43 :: 44 :: 45 :: 46 :: 47 :: 48 :: 49 :: 50 :: 51 :: 52 :: 53 :: 54 :: 55 :: 56 :: 57 :: 58 :: 59 :: 60 :: 61 :: 62 :: 63 :: 64 :: 65 :: 66 :: 67 :: 68 :: 69 :: 70 :: 71 :: 72 :: 73 :: 74 :: 75 :: []) (fun n vs M' H' => ∃ (i : Nat) (mk1 : List Bool), vs = [.int .i64 (i : Int)] ∧ H' = .row (some ⟨g10, 0, none⟩) (d.length + 1) (d.length + 1) 4 1 (mk1.map .bool) :: H ∧ i + n = d.length ∧ Pr d mk mk1 i 0) (d.length) (⟨0, mk, rfl, rfl, by omega, Pr.init hs⟩) ?_
    intro n1 Ml1 Hl1 iL1 u5 hI1 u6 u7 u8 u9 u23 u24 u25 u26 u27 u28 u29 u30 u31 u32 u33 u34 u35 u36 u37 u38 u39 u40 u41 u42 u43 u44 u45 u46 u47 u48 u49 u50 u51 u52 u53 u54 u55 u56 u57 u58 u59 u60 u61 u62 u63 u64 u65 u66 u67 u68 u69 u70 u71 u72 u73 u74 u75
    obtain ⟨i, mk1, hv, rfl, hi, hp⟩ := hI1
    cases hv
    refine sa ?_
    refine AW.seq ?_
    refine AW.seq ?_
    refine AW.region ?_
    refine st V.move ?_
    refine st V.move ?_
    refine st V.len ?_
    refine st V.lss ?_
    refine sn ?_
    refine cond (fun h2 => ?_) (fun h2 => ?_)
    ·
      have k2 := bp h2
      refine AW.skip ?_
      refine AW.seq ?_
      refine AW.block ?_
      refine AW.seq ?_
      have z4 : i < d.length := by omega
      obtain ⟨b8, o8, hA8, i0, ib0, A8, c8, i1, i2⟩ := (hd.upD (M' := Ml1)).at i z4
      have hb8 := i2.bd
      refine AW.region ?_
      refine st V.assign ?_
      refine sn ?_
      refine AW.block ?_
      refine AW.loopL [6] (7 :: 8 :: 9 :: 29 :: 30 :: 31 :: 32 :: 33 :: 34 :: 35 :: 36 :: 37 :: 38 :: 39 :: 40 :: 41 :: 42 :: 43 :: 44 :: 45 :: 46 :: 47 :: 48 :: 49 :: 50 :: 51 :: 52 :: 53 :: 54 :: 55 :: 56 :: 57 :: 58 :: 59 :: 60 :: 61 :: 62 :: 63 :: 64 :: 65 :: 66 :: 67 :: 68 :: 69 :: 70 :: 71 :: 72 :: 73 :: 74 :: 75 :: []) (fun n vs M' H' => ∃ (k : Nat) (mk2 : List Bool), vs = [.int .i64 (k : Int)] ∧ H' = .row (some ⟨g10, 0, none⟩) (d.length + 1) (d.length + 1) 4 1 (mk2.map .bool) :: H ∧ k + n = d[i].cons.length ∧ Pr d mk mk2 i k) (d[i].cons.length) (⟨0, mk1, rfl, rfl, by omega, hp⟩) ?_
      intro n2 Ml2 Hl2 iL2 u6 hI2 u7 u8 u9 u29 u30 u31 u32 u33 u34 u35 u36 u37 u38 u39 u40 u41 u42 u43 u44 u45 u46 u47 u48 u49 u50 u51 u52 u53 u54 u55 u56 u57 u58 u59 u60 u61 u62 u63 u64 u65 u66 u67 u68 u69 u70 u71 u72 u73 u74 u75
      obtain ⟨k, mk2, hv, rfl, hk, hp2⟩ := hI2
      cases hv
      have hl2 := hp2.1.1
      refine sa ?_
      refine AW.seq ?_
      refine AW.seq ?_
      refine AW.region ?_
      refine st V.move ?_
      refine st V.move ?_
      refine st V.move ?_
      refine st (V.ib i rfl z4 hA8) ?_
      refine st V.fa ?_
      first | refine st V.ld ?_ | refine sq V.lo ?_
      refine st V.len ?_
      refine st V.lss ?_
      refine sn ?_
      refine cond (fun h3 => ?_) (fun h3 => ?_)
      ·
        have k3 := bp h3
        refine AW.skip ?_
        refine AW.seq ?_
        refine AW.block ?_
        refine AW.seq ?_
        have z7 : k < d[i].cons.length := by omega
        obtain ⟨b7, o7, hA7, j0, jb0, A7, c7, q1, q2⟩ := (i2.upC (M' := Ml2)).at k z7
        have hb7 := q2.bd
        refine AW.region ?_
        refine st V.assign ?_
        refine sn ?_
        refine AW.seq ?_
        refine AW.region ?_
        refine st V.move ?_
        refine st V.move ?_
        refine st (V.ib i rfl z4 hA8) ?_
        refine st V.fa ?_
        first | refine st V.ld ?_ | refine sq V.lo ?_
        refine st V.move ?_
        refine st (V.ib k rfl z7 hA7) ?_
        refine st V.fa ?_
        first | refine st V.ld ?_ | refine sq V.lo ?_
        refine st V.assign ?_
        refine sn ?_
        refine AW.seq ?_
        refine AW.seq ?_
        refine AW.region ?_
        refine st V.assign ?_
        refine sn ?_
        refine AW.block ?_
        refine AW.loopL [7, 9] (48 :: 49 :: 50 :: 51 :: 52 :: 53 :: 54 :: 55 :: 56 :: 57 :: 58 :: 59 :: 60 :: 61 :: 62 :: 63 :: []) (fun n vs M' H' => ∃ j : Nat, vs = [.bool (allF mk2 (d[i].cons[k].fields.take j)), .int .i64 (j : Int)] ∧ H' = .row (some ⟨g10, 0, none⟩) (d.length + 1) (d.length + 1) 4 1 (mk2.map .bool) :: H ∧ j + n = d[i].cons[k].fields.length) (d[i].cons[k].fields.length) (⟨0, by simp [allF], rfl, by omega⟩) ?_
        intro n3 Ml3 Hl3 iL3 u7 u9 hI3 u48 u49 u50 u51 u52 u53 u54 u55 u56 u57 u58 u59 u60 u61 u62 u63
        obtain ⟨j, hv, rfl, hj⟩ := hI3
        cases hv
        refine sa ?_
        refine AW.seq ?_
        refine AW.seq ?_
        refine AW.region ?_
        refine st V.move ?_
        refine st V.move ?_
        refine st V.len ?_
        refine st V.lss ?_
        refine sn ?_
        refine cond (fun h4 => ?_) (fun h4 => ?_)
        ·
          have k4 := bp h4
          refine AW.skip ?_
          refine AW.seq ?_
          refine AW.block ?_
          have z9 : j < d[i].cons[k].fields.length := by omega
          have hf9 := hT i z4 k z7 _ (List.getElem_mem z9)
          obtain ⟨b9, o9, hA9, f0⟩ := (q2.upI (M' := Ml3)).at j z9
          have f0 : Mk Ml3 b9 (o9 + j * 1) (.int .i64 d[i].cons[k].fields[j]) := f0
          refine AW.region ?_
          refine st V.move ?_
          refine st V.move ?_
          refine onoff false rfl rfl (fun h5 => ?_) (fun h5 => ?_)
          ·
            have k5 := bp h5
            refine st V.move ?_
            refine on rfl h5 ?_
            refine st V.move ?_
            refine on rfl h5 ?_
            refine st V.move ?_
            refine on rfl h5 ?_
            refine st (V.ib j rfl z9 hA9) ?_
            refine on rfl h5 ?_
            first | refine st V.ld ?_ | refine sq V.lo ?_
            refine on rfl h5 ?_
            refine st (V.ib d[i].cons[k].fields[j].toNat (by omega) (by omega) rfl) ?_
            refine on rfl h5 ?_
            refine sq (V.lr (v := .bool (mk2.getD d[i].cons[k].fields[j].toNat false)) 0 rfl (by simp [List.getD, show d[i].cons[k].fields[j].toNat < mk2.length by omega])) ?_
            refine st (V.pT h5) ?_
            refine st V.assign ?_
            refine sn ?_
            refine AW.region ?_
            refine st V.move ?_
            refine st (V.add64 (by omega)) ?_
            refine st V.assign ?_
            refine sn ?_
            repeat with_reducible refine inb_normal ?_
            refine thn_normal ?_
            refine rnd (n3 - 1) _ (by omega) (by repeat first | exact List.Sublist.refl _ | apply List.Sublist.cons) ⟨j + 1, ?_, rfl, by omega⟩
            rw [allF_succ _ _ _ z9, k5, Bool.true_and]; simp
          ·
            have k5 := bp h5
            refine off rfl h5 ?_
            refine off rfl h5 ?_
            refine off rfl h5 ?_
            refine off rfl h5 ?_
            refine off rfl h5 ?_
            refine off rfl h5 ?_
            refine st (V.pF h5) ?_
            refine st V.assign ?_
            refine sn ?_
            refine AW.region ?_
            refine st V.move ?_
            refine st (V.add64 (by omega)) ?_
            refine st V.assign ?_
            refine sn ?_
            repeat with_reducible refine inb_normal ?_
            refine thn_normal ?_
            refine rnd (n3 - 1) _ (by omega) (by repeat first | exact List.Sublist.refl _ | apply List.Sublist.cons) ⟨j + 1, ?_, rfl, by omega⟩
            rw [allF_succ _ _ _ z9, k5, Bool.false_and]; simp
        ·
          have k4 := bp h4
          refine AW.exit ?_
          repeat with_reducible refine thn_exit ?_
          refine inb_exit ?_
          refine AW.region ?_
          refine st V.move ?_
          refine st V.move ?_
          refine st (V.add64 (by omega)) ?_
          refine st V.move ?_
          refine st V.move ?_
          refine st (V.add64 (by omega)) ?_
          refine st (V.ib (i + 1) (by omega) (by omega) rfl) ?_
          refine sq (V.lr (v := .bool (mk2.getD (i + 1) false)) 0 rfl (by simp [List.getD, show i + 1 < mk2.length by omega])) ?_
          refine st V.move ?_
          refine onoff true rfl rfl (fun h6 => ?_) (fun h6 => ?_)
          ·
            have k6 := bp h6
            refine st V.move ?_
            refine st (V.pF h6) ?_
            refine st (V.ib (i + 1) (by omega) (by omega) rfl) ?_
            refine se (S.storeR 0 rfl (by simp; omega) ?_)
            refine sn ?_
            refine AW.region ?_
            refine st V.move ?_
            refine st (V.add64 (by omega)) ?_
            refine st V.assign ?_
            refine sn ?_
            repeat with_reducible refine inb_normal ?_
            refine thn_normal ?_
            have e9 : (mk2.getD (i + 1) false || fOk mk2 d[i].cons[k]) = allF mk2 (d[i].cons[k].fields.take j) := by rw [k6, Bool.false_or, allF_all _ _ _ (by omega)]
            refine rnd (n2 - 1) _ (by omega) (by repeat first | exact List.Sublist.refl _ | apply List.Sublist.cons) ⟨k + 1, _, by simp, ?_, by omega, hp2.step hT z4 z7⟩
            rw [e9]; simp [List.map_set]
          ·
            have k6 := bp h6
            refine st (V.pT h6) ?_
            refine st (V.ib (i + 1) (by omega) (by omega) rfl) ?_
            refine se (S.storeR 0 rfl (by simp; omega) ?_)
            refine sn ?_
            refine AW.region ?_
            refine st V.move ?_
            refine st (V.add64 (by omega)) ?_
            refine st V.assign ?_
            refine sn ?_
            repeat with_reducible refine inb_normal ?_
            refine thn_normal ?_
            have e9 : (mk2.getD (i + 1) false || fOk mk2 d[i].cons[k]) = true := by rw [k6, Bool.true_or]
            refine rnd (n2 - 1) _ (by omega) (by repeat first | exact List.Sublist.refl _ | apply List.Sublist.cons) ⟨k + 1, _, by simp, ?_, by omega, hp2.step hT z4 z7⟩
            rw [e9]; simp [List.map_set]
      ·
        have k3 := bp h3
        refine AW.exit ?_
        repeat with_reducible refine thn_exit ?_
        refine inb_exit ?_
        refine AW.region ?_
        refine st V.move ?_
        refine st (V.add64 (by omega)) ?_
        refine st V.assign ?_
        refine sn ?_
        repeat with_reducible refine inb_normal ?_
        refine thn_normal ?_
        refine rnd (n1 - 1) _ (by omega) (by repeat first | exact List.Sublist.refl _ | apply List.Sublist.cons) ⟨i + 1, mk2, by simp, rfl, by omega, hp2.next z4 (by omega)⟩
    ·
      have k2 := bp h2
      refine AW.exit ?_
      repeat with_reducible refine thn_exit ?_
      refine inb_exit ?_
      refine AW.region ?_
      refine st V.move ?_
      refine st (V.add64 (by omega)) ?_
      refine st V.assign ?_
      refine sn ?_
      repeat with_reducible refine inb_normal ?_
      refine thn_normal ?_
      obtain rfl : i = d.length := by omega
      refine rnd (n - 1) _ (by omega) (by repeat first | exact List.Sublist.refl _ | apply List.Sublist.cons) ⟨r + 1, mk1, by simp, rfl, by omega, hp.1, hp.done hcl⟩
  ·
    have k1 := bp h1
    refine AW.exit ?_
    repeat with_reducible refine thn_exit ?_
    refine inb_exit ?_
    refine AW.seq ?_
    refine AW.seq ?_
    have hc : Closed d mk := hcl.resolve_right (by omega)
    have hl := hs.1
    refine AW.region ?_
    refine st V.assign ?_
    refine sn ?_
    refine AW.block ?_
    refine AW.loopL [10] (2 :: 76 :: 77 :: 78 :: 79 :: 80 :: 81 :: 82 :: 83 :: 84 :: 85 :: 86 :: []) (fun n vs M' H' => ∃ i : Nat, vs = [.int .i64 (i : Int)] ∧ H' = .row (some ⟨g10, 0, none⟩) (d.length + 1) (d.length + 1) 4 1 (mk.map .bool) :: H ∧ i + n = d.length + 1 ∧ (∀ k, k < i → mk.getD k false = true)) (d.length + 1) (⟨0, rfl, rfl, by omega, fun k h => by omega⟩) ?_
    intro n4 Ml4 Hl4 iL4 u10 hI4 u2 u76 u77 u78 u79 u80 u81 u82 u83 u84 u85 u86
    obtain ⟨i, hv, rfl, hi, hall⟩ := hI4
    cases hv
    refine sa ?_
    refine AW.seq ?_
    refine AW.seq ?_
    refine AW.region ?_
    refine st V.move ?_
    refine st V.move ?_
    refine st V.len ?_
    refine st V.lss ?_
    refine sn ?_
    refine cond (fun h7 => ?_) (fun h7 => ?_)
    ·
      have k7 := bp h7
      refine AW.skip ?_
      refine AW.seq ?_
      refine AW.block ?_
      refine AW.seq ?_
      refine AW.region ?_
      refine st V.move ?_
      refine st V.move ?_
      refine st (V.ib i rfl (by omega) rfl) ?_
      refine sq (V.lr (v := .bool (mk.getD i false)) 0 rfl (by simp [List.getD, show i < mk.length by omega])) ?_
      refine st V.not ?_
      refine sn ?_
      refine cond (fun h8 => ?_) (fun h8 => ?_)
      ·
        have k8 := bp h8
        refine AW.seq ?_
        refine AW.region ?_
        refine st V.assign ?_
        refine sn ?_
        refine AW.ret ?_
        repeat with_reducible first | refine thn_ret ?_ | refine inb_ret ?_
        refine fin (Res.i1 rfl) ?_
        refine ⟨_, (by repeat first | exact List.Sublist.refl _ | apply List.Sublist.cons), tt_f (fin_not hs hc i (by omega) (by simpa using k8)), rfl⟩
      ·
        have k8 := bp h8
        refine AW.skip ?_
        refine AW.region ?_
        refine st V.move ?_
        refine st (V.add64 (by omega)) ?_
        refine st V.assign ?_
        refine sn ?_
        repeat with_reducible refine inb_normal ?_
        refine thn_normal ?_
        refine rnd (n4 - 1) _ (by omega) (by repeat first | exact List.Sublist.refl _ | apply List.Sublist.cons) ⟨i + 1, by simp, rfl, by omega, fun k hk => ?_⟩
        rcases Nat.lt_or_ge k i with h | h
        · exact hall k h
        · obtain rfl : k = i := by omega
          simpa using k8
    ·
      have k7 := bp h7
      refine AW.exit ?_
      repeat with_reducible refine thn_exit ?_
      refine inb_exit ?_
      refine AW.seq ?_
      refine AW.region ?_
      refine st V.assign ?_
      refine sn ?_
      refine AW.ret ?_
      repeat with_reducible first | refine thn_ret ?_ | refine inb_ret ?_
      refine fin (Res.i1 rfl) ?_
      refine ⟨_, (by repeat first | exact List.Sublist.refl _ | apply List.Sublist.cons), tt_t (fin_all hs hc fun k hk => hall k (by omega)), rfl⟩
set_option maxHeartbeats 1600000 in
set_option synthInstance.maxHeartbeats 400000 in
set_option synthInstance.maxSize 100000 in
set_option maxRecDepth 100000 in
theorem r_check_c (M : Mem) (H : Heap) (A : Option Addr) (c : Nat) (d : List DT) (hd : RdS 2 (RdD M) A c d) :
    AC Tryz.prog 30 [.slice A d.length c] M H fun v _ H' => v = .int .i64 (checkF d) ∧ H' = H := by
  refine AC.of (n := 20) Tryz.func30 rfl rfl ?_
  dsimp only [List.replicate, List.cons_append, List.nil_append]
  refine AW.seq ?_
  refine AW.region ?_
  refine st V.assign ?_
  refine sn ?_
  refine AW.seq ?_
  refine AW.block ?_
  refine AW.seq ?_
  refine AW.region ?_
  refine st V.move ?_
  refine se (S.call ?_)
  refine (r_many_c _ _ A c d hd.upD).use ?_
  rintro v N G iz ⟨rfl, hG⟩
  obtain rfl := hG.symm
  refine st V.assign ?_
  refine sn ?_
  refine cond (fun h1 => ?_) (fun h1 => ?_)
  ·
    have k1 := bp h1
    refine AW.seq ?_
    refine AW.region ?_
    refine st V.assign ?_
    refine sn ?_
    refine AW.ret ?_
    repeat with_reducible first | refine thn_ret ?_ | refine inb_ret ?_
    refine fin (Res.i1 rfl) ?_
    exact ⟨_, (by repeat first | exact List.Sublist.refl _ | apply List.Sublist.cons), by rw [checkF, if_pos h1], rfl⟩
  ·
    have k1 := bp h1
    refine AW.seq ?_
    refine AW.region ?_
    refine st V.move ?_
    refine se (S.call ?_)
    refine (r_formed_c _ _ A c d hd.upD).use ?_
    rintro v N G iz ⟨rfl, hG⟩
    obtain rfl := hG.symm
    refine st V.not ?_
    refine st V.assign ?_
    refine sn ?_
    refine cond (fun h2 => ?_) (fun h2 => ?_)
    ·
      have k2 := bp h2
      refine AW.seq ?_
      refine AW.region ?_
      refine st V.assign ?_
      refine sn ?_
      refine AW.ret ?_
      repeat with_reducible first | refine thn_ret ?_ | refine inb_ret ?_
      refine fin (Res.i1 rfl) ?_
      exact ⟨_, (by repeat first | exact List.Sublist.refl _ | apply List.Sublist.cons), by rw [checkF, if_neg (by simp [h1]), if_neg (by simp [k2])], rfl⟩
    ·
      have k2 := bp h2
      refine AW.seq ?_
      refine AW.region ?_
      refine st V.move ?_
      refine se (S.call ?_)
      refine (r_twice_c _ _ A c d hd.upD (many_bd h1)).use ?_
      rintro v N G iz ⟨rfl, hG⟩
      obtain rfl := hG.symm
      refine st V.assign ?_
      refine sn ?_
      refine cond (fun h3 => ?_) (fun h3 => ?_)
      ·
        have k3 := bp h3
        refine AW.seq ?_
        refine AW.region ?_
        refine st V.assign ?_
        refine sn ?_
        refine AW.ret ?_
        repeat with_reducible first | refine thn_ret ?_ | refine inb_ret ?_
        refine fin (Res.i1 rfl) ?_
        exact ⟨_, (by repeat first | exact List.Sublist.refl _ | apply List.Sublist.cons), by rw [checkF, if_neg (by simp [h1]), if_pos k2, if_pos h3], rfl⟩
      ·
        have k3 := bp h3
        refine AW.seq ?_
        refine AW.region ?_
        refine st V.move ?_
        refine se (S.call ?_)
        refine (r_typed_c _ _ A c d hd.upD).use ?_
        rintro v N G iz ⟨rfl, hG⟩
        obtain rfl := hG.symm
        refine st V.not ?_
        refine st V.assign ?_
        refine sn ?_
        refine cond (fun h4 => ?_) (fun h4 => ?_)
        ·
          have k4 := bp h4
          refine AW.seq ?_
          refine AW.region ?_
          refine st V.assign ?_
          refine sn ?_
          refine AW.ret ?_
          repeat with_reducible first | refine thn_ret ?_ | refine inb_ret ?_
          refine fin (Res.i1 rfl) ?_
          exact ⟨_, (by repeat first | exact List.Sublist.refl _ | apply List.Sublist.cons), by rw [checkF, if_neg (by simp [h1]), if_pos k2, if_neg (by simp [h3]), if_neg (by simp [k4])], rfl⟩
        ·
          have k4 := bp h4
          refine AW.seq ?_
          have hT : TypedP d := tt_eq.1 k4
          refine AW.region ?_
          refine st V.move ?_
          refine se (S.call ?_)
          refine (r_finite_c _ _ A c d hd.upD hT).use ?_
          rintro v N G iz ⟨rfl, hG⟩
          obtain rfl := hG.symm
          refine st V.not ?_
          refine st V.assign ?_
          refine sn ?_
          refine cond (fun h5 => ?_) (fun h5 => ?_)
          ·
            have k5 := bp h5
            refine AW.seq ?_
            refine AW.region ?_
            refine st V.assign ?_
            refine sn ?_
            refine AW.ret ?_
            repeat with_reducible first | refine thn_ret ?_ | refine inb_ret ?_
            refine fin (Res.i1 rfl) ?_
            exact ⟨_, (by repeat first | exact List.Sublist.refl _ | apply List.Sublist.cons), by rw [checkF, if_neg (by simp [h1]), if_pos k2, if_neg (by simp [h3]), if_pos k4, if_neg (by simp [k5])], rfl⟩
          ·
            have k5 := bp h5
            refine AW.skip ?_
            refine AW.seq ?_
            refine AW.region ?_
            refine st V.assign ?_
            refine sn ?_
            refine AW.ret ?_
            repeat with_reducible first | refine thn_ret ?_ | refine inb_ret ?_
            refine fin (Res.i1 rfl) ?_
            exact ⟨_, (by repeat first | exact List.Sublist.refl _ | apply List.Sublist.cons), by rw [checkF, if_neg (by simp [h1]), if_pos k2, if_neg (by simp [h3]), if_pos k4, if_pos k5], rfl⟩
set_option maxHeartbeats 1600000 in
set_option synthInstance.maxHeartbeats 400000 in
set_option synthInstance.maxSize 100000 in
set_option maxRecDepth 100000 in
theorem r_table_c (M : Mem) (H : Heap) (A : Option Addr) (c : Nat) (d : List DT) (hd : RdS 2 (RdD M) A c d) (t : Int) :
    AC Tryz.prog 35 [.slice A d.length c, .int .i64 t] M H fun v _ H' => v = .int .i64 (tableF d t) ∧ H' = H := by
  refine AC.of (n := 14) Tryz.func35 rfl rfl ?_
  dsimp only [List.replicate, List.cons_append, List.nil_append]
  refine AW.seq ?_
  refine AW.region ?_
  refine st V.assign ?_
  refine sn ?_
  refine AW.seq ?_
  refine AW.seq ?_
  refine AW.region ?_
  refine st V.move ?_
  refine se (S.call ?_)
  refine (r_check_c _ _ A c d hd.upD).use ?_
  rintro v N G iz ⟨rfl, hG⟩
  obtain rfl := hG.symm
  refine st V.neq ?_
  refine sn ?_
  refine cond (fun h1 => ?_) (fun h1 => ?_)
  ·
    have k1 := bp h1
    refine AW.seq ?_
    refine AW.region ?_
    refine st V.assign ?_
    refine sn ?_
    refine AW.ret ?_
    repeat with_reducible first | refine thn_ret ?_ | refine inb_ret ?_
    refine fin (Res.i1 rfl) ?_
    exact ⟨_, (by repeat first | exact List.Sublist.refl _ | apply List.Sublist.cons), by rw [tableF, if_pos k1], rfl⟩
  ·
    have k1 := bp h1
    refine AW.skip ?_
    refine AW.seq ?_
    refine AW.seq ?_
    refine AW.region ?_
    refine st V.move ?_
    refine st V.lss ?_
    refine st V.move ?_
    refine onoff true rfl rfl (fun h2 => ?_) (fun h2 => ?_)
    ·
      have k2 := bp h2
      refine st V.move ?_
      refine on rfl h2 ?_
      refine st V.move ?_
      refine on rfl h2 ?_
      refine st V.len ?_
      refine on rfl h2 ?_
      refine st V.gtr ?_
      refine st (V.pF h2) ?_
      refine sn ?_
      refine cond (fun h3 => ?_) (fun h3 => ?_)
      ·
        have k3 := bp h3
        refine AW.seq ?_
        refine AW.region ?_
        refine st V.assign ?_
        refine sn ?_
        refine AW.ret ?_
        repeat with_reducible first | refine thn_ret ?_ | refine inb_ret ?_
        refine fin (Res.i1 rfl) ?_
        exact ⟨_, (by repeat first | exact List.Sublist.refl _ | apply List.Sublist.cons), by first | rw [tableF, if_neg (fun h => h k1), if_pos (by omega)] | rw [tableF, if_neg (fun h => h k1), if_neg (by omega)], rfl⟩
      ·
        have k3 := bp h3
        refine AW.skip ?_
        refine AW.seq ?_
        refine AW.region ?_
        refine st V.assign ?_
        refine sn ?_
        refine AW.ret ?_
        repeat with_reducible first | refine thn_ret ?_ | refine inb_ret ?_
        refine fin (Res.i1 rfl) ?_
        exact ⟨_, (by repeat first | exact List.Sublist.refl _ | apply List.Sublist.cons), by first | rw [tableF, if_neg (fun h => h k1), if_pos (by omega)] | rw [tableF, if_neg (fun h => h k1), if_neg (by omega)], rfl⟩
    ·
      have k2 := bp h2
      refine off rfl h2 ?_
      refine off rfl h2 ?_
      refine off rfl h2 ?_
      refine st (V.pT h2) ?_
      refine sn ?_
      refine cond (fun _ => ?_) (fun h => by cases h)
      refine AW.seq ?_
      refine AW.region ?_
      refine st V.assign ?_
      refine sn ?_
      refine AW.ret ?_
      repeat with_reducible first | refine thn_ret ?_ | refine inb_ret ?_
      refine fin (Res.i1 rfl) ?_
      exact ⟨_, (by repeat first | exact List.Sublist.refl _ | apply List.Sublist.cons), by first | rw [tableF, if_neg (fun h => h k1), if_pos (by omega)] | rw [tableF, if_neg (fun h => h k1), if_neg (by omega)], rfl⟩
set_option maxHeartbeats 1600000 in
set_option synthInstance.maxHeartbeats 400000 in
set_option synthInstance.maxSize 100000 in
set_option maxRecDepth 100000 in
theorem r18_has_c (M : Mem) (H : Heap) (A : Option Addr) (c r : Nat) (l : List Int) (hr : H[r]? = some (.row A l.length c 23 1 (l.map (.int .i64)))) (hb : l.length ≤ 100000000) (s : Int) :
    AC Tryz.prog 122 [.slice A l.length c, .int .i64 s] M H fun v _ H' => v = .bool (decide (s ∈ l)) ∧ H' = H := by
  refine AC.fact (0 < l.length → ∃ b, A = some ⟨b, 0, none⟩) (fun g w hS => (hS.rowA r hr).2.2.2) fun hA => ?_
  refine AC.of (n := 16) Tryz.func122 rfl rfl ?_
  dsimp only [List.replicate, List.cons_append, List.nil_append]
  refine AW.seq ?_
  refine AW.region ?_
  refine st V.assign ?_
  refine sn ?_
  refine AW.seq ?_
  refine AW.seq ?_
  refine AW.region ?_
  refine st V.assign ?_
  refine sn ?_
  refine AW.block ?_
  refine AW.loopL [5] (4 :: 6 :: 7 :: 8 :: 9 :: 10 :: 11 :: 12 :: 13 :: 14 :: 15 :: 16 :: 17 :: []) (fun n vs M' H' => ∃ i : Nat, vs = [.int .i64 (i : Int)] ∧ H' = H ∧ i + n = l.length ∧ (∀ k (h : k < l.length), k < i → l[k] ≠ s)) (l.length) (⟨0, rfl, rfl, by omega, fun j _ h => by omega⟩) ?_
  intro n Ml Hl iL u5 hI u4 u6 u7 u8 u9 u10 u11 u12 u13 u14 u15 u16 u17
  obtain ⟨i, hv, hH, hi, hall⟩ := hI
  obtain rfl := hH.symm
  cases hv
  refine sa ?_
  refine AW.seq ?_
  refine AW.seq ?_
  refine AW.region ?_
  refine st V.move ?_
  refine st V.move ?_
  refine st V.len ?_
  refine st V.lss ?_
  refine sn ?_
  refine cond (fun h1 => ?_) (fun h1 => ?_)
  ·
    have k1 := bp h1
    refine AW.skip ?_
    refine AW.seq ?_
    refine AW.block ?_
    refine AW.seq ?_
    have z4 : i < l.length := by omega
    obtain ⟨g, hg⟩ := hA (by omega)
    subst hg
    refine AW.region ?_
    refine st V.move ?_
    refine st V.move ?_
    refine st (V.ib i rfl z4 rfl) ?_
    refine sq (V.lr (v := .int .i64 l[i]) r hr (by simp [z4])) ?_
    refine st V.move ?_
    refine st V.eql ?_
    refine sn ?_
    refine cond (fun h2 => ?_) (fun h2 => ?_)
    ·
      have k2 := bp h2
      refine AW.seq ?_
      refine AW.region ?_
      refine st V.assign ?_
      refine sn ?_
      refine AW.ret ?_
      repeat with_reducible first | refine thn_ret ?_ | refine inb_ret ?_
      refine fin (Res.i1 rfl) ?_
      exact ⟨_, (by repeat first | exact List.Sublist.refl _ | apply List.Sublist.cons), by rw [decide_eq_true (by rw [← k2]; exact List.getElem_mem z4)], rfl⟩
    ·
      have k2 := bp h2
      refine AW.skip ?_
      refine AW.region ?_
      refine st V.move ?_
      refine st (V.add64 (by omega)) ?_
      refine st V.assign ?_
      refine sn ?_
      repeat with_reducible refine inb_normal ?_
      refine thn_normal ?_
      refine rnd (n - 1) _ (by omega) (List.Sublist.refl _) ⟨i + 1, by simp, rfl, by omega, fun k hk hki => ?_⟩
      rcases Nat.lt_or_ge k i with h | h
      · exact hall k hk h
      · obtain rfl : k = i := by omega
        exact k2
  ·
    have k1 := bp h1
    refine AW.exit ?_
    repeat with_reducible refine thn_exit ?_
    refine inb_exit ?_
    refine AW.seq ?_
    refine AW.region ?_
    refine st V.assign ?_
    refine sn ?_
    refine AW.ret ?_
    repeat with_reducible first | refine thn_ret ?_ | refine inb_ret ?_
    refine fin (Res.i1 rfl) ?_
    exact ⟨_, (by repeat first | exact List.Sublist.refl _ | apply List.Sublist.cons), by rw [decide_eq_false (fun hm => by obtain ⟨k, hk, e⟩ := List.getElem_of_mem hm; exact hall k hk (by omega) e)], rfl⟩
set_option maxHeartbeats 1600000 in
set_option synthInstance.maxHeartbeats 400000 in
set_option synthInstance.maxSize 100000 in
set_option maxRecDepth 100000 in
theorem r18_flat_c (M : Mem) (H : Heap) (A : Option Addr) (c : Nat) (d : List DT) (t : Int) (ht : 0 ≤ t ∧ t ≤ d.length) (hd : RdS 2 (RdD M) A c d) :
    AC Tryz.prog 121 [.slice A d.length c, .int .i64 t] M H fun v _ H' => v = .bool (flatF d t) ∧ H' = H := by
  refine AC.of (n := 26) Tryz.func121 rfl rfl ?_
  dsimp only [List.replicate, List.cons_append, List.nil_append]
  refine AW.seq ?_
  refine AW.region ?_
  refine st V.assign ?_
  refine sn ?_
  refine AW.seq ?_
  refine AW.seq ?_
  refine AW.region ?_
  refine st V.move ?_
  refine st V.eql ?_
  refine sn ?_
  refine cond (fun h1 => ?_) (fun h1 => ?_)
  ·
    have k1 := bp h1
    refine AW.seq ?_
    refine AW.region ?_
    refine st V.assign ?_
    refine sn ?_
    refine AW.ret ?_
    repeat with_reducible first | refine thn_ret ?_ | refine inb_ret ?_
    refine fin (Res.i1 rfl) ?_
    have e0 : consF d t = [] := by rw [consF, if_pos (by omega)]
    exact ⟨_, (by repeat first | exact List.Sublist.refl _ | apply List.Sublist.cons), by rw [flatF, e0, decide_eq_true ht]; rfl, rfl⟩
  ·
    have k1 := bp h1
    refine AW.skip ?_
    refine AW.seq ?_
    have hbd := hd.bd
    obtain ⟨p, rfl⟩ : ∃ p : Nat, t = (p : Int) + 1 := ⟨(t - 1).toNat, by omega⟩
    have hp0 : p < d.length := by omega
    obtain ⟨b8, o8, hA8, i0, ib0, A8, c8, i1, i2⟩ := hd.at p hp0
    have hb2 := i2.bd
    have hf : flatF d ((p : Int) + 1) = !(d[p].cons.any fun c => decide (0 < (c.fields.length : Int))) := by rw [flatF, consF_at d p hp0, decide_eq_true (by omega), Bool.true_and]
    refine AW.region ?_
    refine st V.move ?_
    refine st V.move ?_
    refine st (V.sub64 (by omega)) ?_
    refine st (V.ib p (by omega) hp0 hA8) ?_
    refine st V.fa ?_
    first | refine st V.ld ?_ | refine sq V.lo ?_
    refine st V.assign ?_
    refine sn ?_
    refine AW.seq ?_
    refine AW.seq ?_
    refine AW.region ?_
    refine st V.assign ?_
    refine sn ?_
    refine AW.block ?_
    refine AW.loopL [6] (4 :: 15 :: 16 :: 17 :: 18 :: 19 :: 20 :: 21 :: 22 :: 23 :: 24 :: 25 :: 26 :: 27 :: []) (fun n vs M' H' => ∃ i : Nat, vs = [.int .i64 (i : Int)] ∧ H' = H ∧ i + n = d[p].cons.length ∧ (∀ k (h : k < d[p].cons.length), k < i → decide (0 < (d[p].cons[k].fields.length : Int)) = false)) (d[p].cons.length) (⟨0, rfl, rfl, by omega, fun j _ h => by omega⟩) ?_
    intro n Ml Hl iL u6 hI u4 u15 u16 u17 u18 u19 u20 u21 u22 u23 u24 u25 u26 u27
    obtain ⟨i, hv, hH, hi, hall⟩ := hI
    obtain rfl := hH.symm
    cases hv
    refine sa ?_
    refine AW.seq ?_
    refine AW.seq ?_
    refine AW.region ?_
    refine st V.move ?_
    refine st V.move ?_
    refine st V.len ?_
    refine st V.lss ?_
    refine sn ?_
    refine cond (fun h2 => ?_) (fun h2 => ?_)
    ·
      have k2 := bp h2
      refine AW.skip ?_
      refine AW.seq ?_
      refine AW.block ?_
      refine AW.seq ?_
      have z4 : i < d[p].cons.length := by omega
      obtain ⟨b7, o7, hA7, j0, jb0, A7, c7, q1, q2⟩ := (i2.upC (M' := Ml)).at i z4
      have hb3 := q2.bd
      refine AW.region ?_
      refine st V.move ?_
      refine st V.move ?_
      refine st (V.ib i rfl z4 hA7) ?_
      refine st V.fa ?_
      first | refine st V.ld ?_ | refine sq V.lo ?_
      refine st V.len ?_
      refine st V.gtr ?_
      refine sn ?_
      refine cond (fun h3 => ?_) (fun h3 => ?_)
      ·
        have k3 := bp h3
        refine AW.seq ?_
        refine AW.region ?_
        refine st V.assign ?_
        refine sn ?_
        refine AW.ret ?_
        repeat with_reducible first | refine thn_ret ?_ | refine inb_ret ?_
        refine fin (Res.i1 rfl) ?_
        exact ⟨_, (by repeat first | exact List.Sublist.refl _ | apply List.Sublist.cons), by rw [hf, any_at i z4 h3]; rfl, rfl⟩
      ·
        have k3 := bp h3
        refine AW.skip ?_
        refine AW.region ?_
        refine st V.move ?_
        refine st (V.add64 (by omega)) ?_
        refine st V.assign ?_
        refine sn ?_
        repeat with_reducible refine inb_normal ?_
        refine thn_normal ?_
        refine rnd (n - 1) _ (by omega) (List.Sublist.refl _) ⟨i + 1, by simp, rfl, by omega, fun k hk hki => ?_⟩
        rcases Nat.lt_or_ge k i with h | h
        · exact hall k hk h
        · obtain rfl : k = i := by omega
          exact h3
    ·
      have k2 := bp h2
      refine AW.exit ?_
      repeat with_reducible refine thn_exit ?_
      refine inb_exit ?_
      refine AW.seq ?_
      refine AW.region ?_
      refine st V.assign ?_
      refine sn ?_
      refine AW.ret ?_
      repeat with_reducible first | refine thn_ret ?_ | refine inb_ret ?_
      refine fin (Res.i1 rfl) ?_
      exact ⟨_, (by repeat first | exact List.Sublist.refl _ | apply List.Sublist.cons), by rw [hf, any_none fun k hk => hall k hk (by omega)]; rfl, rfl⟩
end Go.Proofs.YtieaiheejhmbfaaGreatDoor.ML
/- Walks of functions of the program, in the abstract layer. No conditions. -/
namespace Go.Proofs.YtieaiheejhmbfaaGreatDoor.ML
open Go.RowKit
set_option linter.unusedVariables false
set_option linter.unusedSimpArgs false
set_option maxHeartbeats 1600000 in
set_option synthInstance.maxHeartbeats 400000 in
set_option synthInstance.maxSize 100000 in
set_option maxRecDepth 100000 in
theorem r_fields_c (M : Mem) (H : Heap) (Ad : Option Addr) (cd : Nat) (d : List DT) (hd : RdS 2 (RdD M) Ad cd d) (t : Int) (ht : 0 ≤ t ∧ t ≤ d.length) (A : Option Addr) (c : Nat) (v : VT) (hv : VV M A c v) :
    AC Tryz.prog 69 [.slice Ad d.length cd, .int .i64 t, .agg #[.int .i64 v.num, .int .i64 v.con, .slice A v.args.length c]] M H fun r M' H' => ∃ s, r = .tuple #[s, .bool (!badV d t v)] ∧ H' = H ∧ (badV d t v = false → ∃ A' c', s = .slice A' (fldV d t v).length c' ∧ RdS 1 (RdI M') A' c' (fldV d t v)) := by
  refine AC.of (n := 55) Tryz.func69 rfl rfl ?_
  dsimp only [List.replicate, List.cons_append, List.nil_append]
  refine AW.seq ?_
  have hbd := hd.bd
  have hba : v.args.length ≤ 140737488355328 := RdS.bd hv
  refine AW.region ?_
  refine se (S.boxM ?_); intro b5 M5 i5 j5
  refine st V.assign ?_
  refine st V.assign ?_
  refine sn ?_
  refine AW.seq ?_
  refine AW.seq ?_
  refine AW.region ?_
  refine st V.move ?_
  refine st V.eql ?_
  refine sn ?_
  refine cond (fun h1 => ?_) (fun h1 => ?_)
  ·
    have k1 := bp h1
    refine AW.seq ?_
    refine AW.regionD mx false [0, 1, 2, 3, 4, 5, 6, 7, 8, 9, 10] [[], [0], [0, 1], [0, 1, 2], [0, 1, 2, 3], [0, 1, 2, 3, 4], [0, 1, 2, 3, 4, 5], [0, 1, 2, 3, 4, 5, 6], [0, 1, 2, 3, 4, 5, 6, 7], [0, 1, 2, 3], [0, 1, 2, 3, 4, 5, 6, 7, 8, 9]] (by kernel_rfl) ?_
    refine D.p rfl rfl V.faz ?_
    first | refine D.p rfl rfl V.ld ?_ | refine D.q rfl rfl V.lo ?_
    refine D.p rfl rfl V.eql ?_
    refine D.p rfl rfl V.move ?_
    refine D.onoff true false rfl 14 (fun h2 => ?_) (fun h2 => ?_)
    ·
      have k2 := bp h2
      refine D.pOn rfl rfl h2 rfl V.faz ?_
      first | refine D.pOn rfl rfl h2 rfl V.ld ?_ | refine D.qOn rfl rfl h2 rfl V.lo ?_
      refine D.pOn rfl rfl h2 rfl V.len ?_
      refine D.pOn rfl rfl h2 rfl V.eql ?_
      refine D.p rfl rfl (V.pT h2) ?_
      refine D.p rfl rfl V.assign ?_
      refine D.p rfl rfl V.assign ?_
      refine D.nl ?_
      refine AW.ret ?_
      repeat with_reducible first | refine thn_ret ?_ | refine inb_ret ?_
      refine fin (Res.i2 rfl) ?_
      obtain rfl : t = 0 := by simpa using k1
      have hbv : badV d 0 v = !decide ((v.args.length : Int) = 0) := by unfold badV; rw [if_pos rfl, ← decide_not, decide_eq_decide]; omega
      exact ⟨_, (by repeat first | exact List.Sublist.refl _ | apply List.Sublist.cons), _, by rw [hbv, Bool.not_not], rfl, fun _ => ⟨none, 0, by rw [fldV_0]; rfl, by rw [fldV_0]; exact .nil⟩⟩
    ·
      have k2 := bp h2
      refine D.off rfl rfl (by rw [h2]; decide) ?_
      refine D.off rfl rfl (by rw [h2]; decide) ?_
      refine D.off rfl rfl (by rw [h2]; decide) ?_
      refine D.off rfl rfl (by rw [h2]; decide) ?_
      refine D.p rfl rfl (V.pF h2) ?_
      refine D.p rfl rfl V.assign ?_
      refine D.p rfl rfl V.assign ?_
      refine D.nl ?_
      refine AW.ret ?_
      repeat with_reducible first | refine thn_ret ?_ | refine inb_ret ?_
      refine fin (Res.i2 rfl) ?_
      obtain rfl : t = 0 := by simpa using k1
      have hbv : badV d 0 v = true := by unfold badV; rw [if_pos rfl]; exact decide_eq_true (by omega)
      exact ⟨_, (by repeat first | exact List.Sublist.refl _ | apply List.Sublist.cons), _, by rw [hbv]; rfl, rfl, fun h => by rw [hbv] at h; cases h⟩
  ·
    have k1 := bp h1
    obtain ⟨p, rfl⟩ : ∃ p : Nat, t = (p : Int) + 1 := ⟨(t - 1).toNat, by omega⟩
    have hp0 : p < d.length := by omega
    obtain ⟨b8, o8, hA8, i0, ib0, A8, c8, i1, i2⟩ := (hd.upD (M' := M5)).at p hp0
    have hb8 := i2.bd
    refine AW.skip ?_
    refine AW.seq ?_
    refine AW.seq ?_
    refine AW.regionD mx false [0, 1, 2, 3, 4, 5, 6, 7, 8, 9, 10, 11, 12, 13, 14, 15, 16, 17, 18, 19] [[], [0], [0, 1], [0, 1, 2], [0, 1, 2, 3], [0, 1, 2, 3, 4], [0, 1, 2, 3, 4, 5], [0, 1, 2, 3, 4, 5, 6], [0, 1, 2, 3, 4, 5, 6, 7], [0, 1, 2, 3, 4, 5, 6, 7, 8], [0, 1, 2, 3, 4, 5, 6, 7, 8, 9], [0, 1, 2, 3, 4, 5, 6, 7, 8], [0, 1, 2, 3, 4, 5, 6, 7, 8], [0, 1, 2, 3, 4, 5, 6, 7, 8, 12], [0, 1, 2, 3, 4, 5, 6, 7, 8, 11, 12, 13], [0, 1, 2, 3, 4, 5, 6, 7, 8, 11, 12, 13, 14], [0, 1, 2, 3, 4, 5, 6, 7, 8, 11, 12, 13, 14, 15], [0, 1, 2, 3, 4, 5, 6, 7, 8, 11, 12, 13, 14, 15, 16], [0, 1, 2, 3, 4, 5, 6, 7, 8, 9, 10, 11, 12, 13, 14, 15, 16, 17], [0, 1, 2, 3, 4, 5, 6, 7, 8, 9, 10, 11, 12, 13, 14, 15, 16, 17, 18]] (by kernel_rfl) ?_
    refine D.p rfl rfl V.fa0 ?_
    first | refine D.p rfl rfl V.ld ?_ | refine D.q rfl rfl V.lo ?_
    refine D.p rfl rfl V.neq ?_
    refine D.p rfl rfl V.move ?_
    refine D.onoff false true rfl 23 (fun h3 => ?_) (fun h3 => ?_)
    ·
      have k3 := bp h3
      refine D.pOn rfl rfl h3 rfl V.faz ?_
      first | refine D.pOn rfl rfl h3 rfl V.ld ?_ | refine D.qOn rfl rfl h3 rfl V.lo ?_
      refine D.pOn rfl rfl h3 rfl V.lss ?_
      refine D.p rfl rfl (V.pF h3) ?_
      refine D.p rfl rfl V.move ?_
      refine D.onoff false true rfl 28 (fun h4 => ?_) (fun h4 => ?_)
      ·
        have k4 := bp h4
        refine D.pOn rfl rfl h4 rfl V.faz ?_
        first | refine D.pOn rfl rfl h4 rfl V.ld ?_ | refine D.qOn rfl rfl h4 rfl V.lo ?_
        refine D.pOn rfl rfl h4 rfl V.move ?_
        refine D.pOn rfl rfl h4 rfl V.move ?_
        refine D.pOn rfl rfl h4 rfl (V.sub64 (by omega)) ?_
        refine D.pOn rfl rfl h4 rfl (V.ib p (by omega) hp0 hA8) ?_
        refine D.pOn rfl rfl h4 rfl V.fa ?_
        first | refine D.pOn rfl rfl h4 rfl V.ld ?_ | refine D.qOn rfl rfl h4 rfl V.lo ?_
        refine D.pOn rfl rfl h4 rfl V.len ?_
        refine D.pOn rfl rfl h4 rfl V.geq ?_
        refine D.p rfl rfl (V.pF h4) ?_
        refine D.nl ?_
        refine cond (fun h5 => ?_) (fun h5 => ?_)
        ·
          have k5 := bp h5
          refine AW.seq ?_
          refine AW.region ?_
          refine st V.assign ?_
          refine st V.assign ?_
          refine sn ?_
          refine AW.ret ?_
          repeat with_reducible first | refine thn_ret ?_ | refine inb_ret ?_
          refine fin (Res.i2 rfl) ?_
          have hbv : badV d ((p : Int) + 1) v = true := by rw [badV_at d p hp0]; exact decide_eq_true (by omega)
          exact ⟨_, (by repeat first | exact List.Sublist.refl _ | apply List.Sublist.cons), _, by rw [hbv]; rfl, rfl, fun h => by rw [hbv] at h; cases h⟩
        ·
          have k5 := bp h5
          refine AW.skip ?_
          refine AW.seq ?_
          obtain ⟨k, hk⟩ : ∃ k : Nat, v.con = (k : Int) := ⟨v.con.toNat, by omega⟩
          have hk' : k < d[p].cons.length := by omega
          obtain ⟨b9, o9, hA9, e0, eb, A9, c9, e1, e2⟩ := i2.at k hk'
          have hb9 := e2.bd
          refine AW.regionD mx false [0, 1, 2, 3, 4, 5, 6, 7, 8, 9, 10, 11] [[], [], [1], [0, 1, 2], [0, 1, 2, 3], [0, 1, 2, 3, 4], [], [6], [0, 1, 2, 3, 4, 5, 6, 7], [0, 1, 2, 3, 4, 5, 6, 7, 8], [0, 1, 2, 3, 4, 5, 6, 7, 8, 9], [0, 1, 2, 3, 4, 5, 6, 7, 8, 9, 10]] (by kernel_rfl) ?_
          refine D.p rfl rfl V.move ?_
          refine D.p rfl rfl V.move ?_
          refine D.p rfl rfl (V.sub64 (by omega)) ?_
          refine D.p rfl rfl (V.ib p (by omega) hp0 hA8) ?_
          refine D.p rfl rfl V.fa ?_
          first | refine D.p rfl rfl V.ld ?_ | refine D.q rfl rfl V.lo ?_
          refine D.p rfl rfl V.faz ?_
          first | refine D.p rfl rfl V.ld ?_ | refine D.q rfl rfl V.lo ?_
          refine D.p rfl rfl (V.ib k hk hk' hA9) ?_
          refine D.p rfl rfl V.fa ?_
          first | refine D.p rfl rfl V.ld ?_ | refine D.q rfl rfl V.lo ?_
          refine D.p rfl rfl V.assign ?_
          refine D.nl ?_
          refine AW.seq ?_
          refine AW.regionD mx false [0, 1, 2, 3, 4, 5, 6, 7, 8] [[], [], [1], [], [3], [3, 4], [1, 2, 3, 4, 5], [0], [0, 1, 2, 3, 4, 5, 6, 7]] (by kernel_rfl) ?_
          refine D.p rfl rfl V.move ?_
          refine D.p rfl rfl V.move ?_
          refine D.p rfl rfl V.len ?_
          refine D.p rfl rfl V.faz ?_
          first | refine D.p rfl rfl V.ld ?_ | refine D.q rfl rfl V.lo ?_
          refine D.p rfl rfl V.len ?_
          refine D.p rfl rfl V.eql ?_
          refine D.p rfl rfl V.assign ?_
          refine D.p rfl rfl V.assign ?_
          refine D.nl ?_
          refine AW.ret ?_
          repeat with_reducible first | refine thn_ret ?_ | refine inb_ret ?_
          refine fin (Res.i2 rfl) ?_
          have hg : (d[p].cons.getD v.con.toNat ⟨⟨#[]⟩, []⟩).fields.length = d[p].cons[k].fields.length := by rw [hk]; simp [List.getD, hk']
          have hbv : badV d ((p : Int) + 1) v = !decide ((d[p].cons[k].fields.length : Int) = v.args.length) := by rw [badV_at d p hp0, ← decide_not, decide_eq_decide, hg]; omega
          exact ⟨_, (by repeat first | exact List.Sublist.refl _ | apply List.Sublist.cons), _, by rw [hbv, Bool.not_not], rfl, fun _ => ⟨A9, c9, by rw [fldV_at d p hp0 v k hk hk'], by rw [fldV_at d p hp0 v k hk hk']; exact e2.upI⟩⟩
      ·
        have k4 := bp h4
        refine D.off rfl rfl (by rw [h4]; decide) ?_
        refine D.off rfl rfl (by rw [h4]; decide) ?_
        refine D.off rfl rfl (by rw [h4]; decide) ?_
        refine D.off rfl rfl (by rw [h4]; decide) ?_
        refine D.off rfl rfl (by rw [h4]; decide) ?_
        refine D.off rfl rfl (by rw [h4]; decide) ?_
        refine D.off rfl rfl (by rw [h4]; decide) ?_
        refine D.off rfl rfl (by rw [h4]; decide) ?_
        refine D.off rfl rfl (by rw [h4]; decide) ?_
        refine D.off rfl rfl (by rw [h4]; decide) ?_
        refine D.p rfl rfl (V.pT h4) ?_
        refine D.nl ?_
        refine cond (fun _ => ?_) (fun h => by cases h)
        refine AW.seq ?_
        refine AW.region ?_
        refine st V.assign ?_
        refine st V.assign ?_
        refine sn ?_
        refine AW.ret ?_
        repeat with_reducible first | refine thn_ret ?_ | refine inb_ret ?_
        refine fin (Res.i2 rfl) ?_
        have hbv : badV d ((p : Int) + 1) v = true := by rw [badV_at d p hp0]; exact decide_eq_true (by omega)
        exact ⟨_, (by repeat first | exact List.Sublist.refl _ | apply List.Sublist.cons), _, by rw [hbv]; rfl, rfl, fun h => by rw [hbv] at h; cases h⟩
    ·
      have k3 := bp h3
      refine D.off rfl rfl (by rw [h3]; decide) ?_
      refine D.off rfl rfl (by rw [h3]; decide) ?_
      refine D.off rfl rfl (by rw [h3]; decide) ?_
      refine D.p rfl rfl (V.pT h3) ?_
      refine D.p rfl rfl V.move ?_
      refine D.off rfl rfl (by decide) ?_
      refine D.off rfl rfl (by decide) ?_
      refine D.off rfl rfl (by decide) ?_
      refine D.off rfl rfl (by decide) ?_
      refine D.off rfl rfl (by decide) ?_
      refine D.off rfl rfl (by decide) ?_
      refine D.off rfl rfl (by decide) ?_
      refine D.off rfl rfl (by decide) ?_
      refine D.off rfl rfl (by decide) ?_
      refine D.off rfl rfl (by decide) ?_
      refine D.p rfl rfl (V.pT rfl) ?_
      refine D.nl ?_
      refine cond (fun _ => ?_) (fun h => by cases h)
      refine AW.seq ?_
      refine AW.region ?_
      refine st V.assign ?_
      refine st V.assign ?_
      refine sn ?_
      refine AW.ret ?_
      repeat with_reducible first | refine thn_ret ?_ | refine inb_ret ?_
      refine fin (Res.i2 rfl) ?_
      have hbv : badV d ((p : Int) + 1) v = true := by rw [badV_at d p hp0]; exact decide_eq_true (by omega)
      exact ⟨_, (by repeat first | exact List.Sublist.refl _ | apply List.Sublist.cons), _, by rw [hbv]; rfl, rfl, fun h => by rw [hbv] at h; cases h⟩
set_option maxHeartbeats 1600000 in
set_option synthInstance.maxHeartbeats 400000 in
set_option synthInstance.maxSize 100000 in
set_option maxRecDepth 100000 in
theorem r_part_c (d : List DT) (hT : TypedP d) : ∀ (z : Nat) (v : VT), SizeOf.sizeOf v < z → ∀ (t : Int), 0 ≤ t ∧ t ≤ d.length → ∀ (n : Nat), n ≤ 65536 → ∀ (M : Mem) (H : Heap) (Ad : Option Addr) (cd : Nat) (A : Option Addr) (c : Nat), RdS 2 (RdD M) Ad cd d → VV M A c v →
    AC Tryz.prog 36 [.slice Ad d.length cd, .int .i64 t, .agg #[.int .i64 v.num, .int .i64 v.con, .slice A v.args.length c], .int .i64 n] M H fun r _ H' => ∃ m : Int, r = .tuple #[.int .i64 m, .int .i64 (wV d (fun (_ : Unit) _ _ => ()) t v n ()).1] ∧ ((wV d (fun (_ : Unit) _ _ => ()) t v n ()).1 = 0 → m = (wV d (fun (_ : Unit) _ _ => ()) t v n ()).2.1) ∧ H' = H
  | 0, _, hz, _, _, _, _ => by omega
  | z + 1, v, hz, t, ht, n, hn => by
    intro M H Ad cd A c hd hv
    have hbd := hd.bd
    have hba : v.args.length ≤ 140737488355328 := RdS.bd hv
    refine AC.of (n := 56) Tryz.func36 rfl rfl ?_
    dsimp only [List.replicate, List.cons_append, List.nil_append]
    refine AW.seq ?_
    refine AW.region ?_
    refine se (S.boxM ?_); intro b6 M6 i6 j6
    refine st V.assign ?_
    refine st V.assign ?_
    refine sn ?_
    refine AW.seq ?_
    refine AW.region ?_
    refine st V.move ?_
    refine st V.move ?_
    first | refine st V.ldA ?_ | refine sq V.loA ?_
    refine se (S.call ?_)
    refine (r_fields_c _ _ Ad cd d hd.upD t ht A c v (VV.up hv)).use ?_
    rintro v N G iz ⟨s0, rfl, hG, hfl⟩
    obtain rfl := hG.symm
    refine st V.move ?_
    refine st V.ext ?_
    refine st V.ext ?_
    refine st V.assign ?_
    refine st V.assign ?_
    refine sn ?_
    refine AW.seq ?_
    refine AW.seq ?_
    refine AW.region ?_
    refine st V.move ?_
    refine st V.not ?_
    refine sn ?_
    refine cond (fun h1 => ?_) (fun h1 => ?_)
    ·
      have k1 := bp h1
      refine AW.seq ?_
      refine AW.region ?_
      refine st V.move ?_
      refine st V.assign ?_
      refine st V.assign ?_
      refine sn ?_
      refine AW.ret ?_
      repeat with_reducible first | refine thn_ret ?_ | refine inb_ret ?_
      refine fin (Res.i2 rfl) ?_
      have hb : badV d t v = true := by simpa using h1
      have hw : wV d (fun (_ : Unit) _ _ => ()) t v n () = (10, n, ()) := by rw [wV_eq, if_pos hb]
      exact ⟨_, (by repeat first | exact List.Sublist.refl _ | apply List.Sublist.cons), _, by rw [hw], (fun h => by rw [hw] at h; cases h), rfl⟩
    ·
      have k1 := bp h1
      have hbv : badV d t v = false := by simpa using h1
      have e0 := wV_u d ht hbv n
      have hlf := fldV_len ht hbv
      obtain ⟨A6, c6, rfl, hf6⟩ := hfl hbv
      refine AW.skip ?_
      refine AW.cutL [3] (25 :: 26 :: 27 :: 28 :: 29 :: []) (fun vs M' H' => ∃ n2 : Nat, vs = [.int .i64 (n2 : Int)] ∧ H' = H ∧ n2 = (if 0 < v.args.length then n + 1 else n)) ?_ ?_
      ·
        refine AW.seq ?_
        refine AW.region ?_
        refine st V.move ?_
        refine st V.len ?_
        refine st V.gtr ?_
        refine sn ?_
        refine cond (fun h2 => ?_) (fun h2 => ?_)
        ·
          have k2 := bp h2
          refine AW.region ?_
          refine st V.move ?_
          refine st (V.add64 (by omega)) ?_
          refine st V.assign ?_
          refine sn ?_
          repeat with_reducible refine inb_normal ?_
          refine thn_normal ?_
          exact met _ (List.Sublist.refl _) ⟨n + 1, by simp, rfl, by rw [if_pos (by omega)]⟩
        ·
          have k2 := bp h2
          refine AW.skip ?_
          repeat with_reducible refine inb_normal ?_
          refine thn_normal ?_
          exact met _ (List.Sublist.refl _) ⟨n, rfl, rfl, by rw [if_neg (by omega)]⟩
      ·
        intro Mc6 Hc6 iC6 u3 hJ u25 u26 u27 u28 u29
        obtain ⟨n2, hv', hH, hn2⟩ := hJ
        obtain rfl := hH.symm
        cases hv'
        have hn3 : n2 ≤ n + 1 := by rw [hn2]; split <;> omega
        refine sa ?_
        refine AW.seq ?_
        refine AW.seq ?_
        refine AW.region ?_
        refine st V.move ?_
        refine st V.gtr ?_
        refine sn ?_
        refine cond (fun h3 => ?_) (fun h3 => ?_)
        ·
          have k3 := bp h3
          refine AW.seq ?_
          refine AW.region ?_
          refine st V.move ?_
          refine st V.assign ?_
          refine st V.assign ?_
          refine sn ?_
          refine AW.ret ?_
          repeat with_reducible first | refine thn_ret ?_ | refine inb_ret ?_
          refine fin (Res.i2 rfl) ?_
          have hw : wV d (fun (_ : Unit) _ _ => ()) t v n () = (18, n, ()) := by rw [e0, if_pos ?_]; by_cases h : 0 < v.args.length; exact ⟨h, by omega⟩; (rw [hn2, if_neg h] at k3; omega)
          exact ⟨_, (by repeat first | exact List.Sublist.refl _ | apply List.Sublist.cons), _, by rw [hw], (fun h => by rw [hw] at h; cases h), rfl⟩
        ·
          have k3 := bp h3
          refine AW.skip ?_
          refine AW.seq ?_
          refine AW.seq ?_
          refine AW.region ?_
          refine st V.assign ?_
          refine sn ?_
          refine AW.block ?_
          refine AW.loopL [3, 12] (8 :: 9 :: 13 :: 14 :: 33 :: 34 :: 35 :: 36 :: 37 :: 38 :: 39 :: 40 :: 41 :: 42 :: 43 :: 44 :: 45 :: 46 :: 47 :: 48 :: 49 :: 50 :: 51 :: 52 :: 53 :: 54 :: 55 :: 56 :: 57 :: 58 :: []) (fun m vs M' H' => ∃ (i n1 : Nat), vs = [.int .i64 (n1 : Int), .int .i64 (i : Int)] ∧ H' = H ∧ i + m = v.args.length ∧ n1 ≤ 65536 ∧ wV d (fun (_ : Unit) _ _ => ()) t v n () = wL d (fun (_ : Unit) _ _ => ()) ((fldV d t v).drop i) (v.args.drop i) n1 ()) (v.args.length) (⟨0, n2, rfl, rfl, by omega, by omega, by rw [e0, if_neg (fun hh => by rw [hn2, if_pos hh.1] at k3; omega), hn2]; rfl⟩) ?_
          intro m Ml Hl iL u3 u12 hI u8 u9 u13 u14 u33 u34 u35 u36 u37 u38 u39 u40 u41 u42 u43 u44 u45 u46 u47 u48 u49 u50 u51 u52 u53 u54 u55 u56 u57 u58
          obtain ⟨i, n1, hv', hH, hi, hn1, hw⟩ := hI
          obtain rfl := hH.symm
          cases hv'
          refine sa ?_
          refine AW.seq ?_
          refine AW.seq ?_
          refine AW.region ?_
          refine st V.move ?_
          refine st V.move ?_
          refine st V.len ?_
          refine st V.lss ?_
          refine sn ?_
          refine cond (fun h4 => ?_) (fun h4 => ?_)
          ·
            have k4 := bp h4
            refine AW.skip ?_
            refine AW.seq ?_
            refine AW.block ?_
            refine AW.seq ?_
            have z6 : i < v.args.length := by omega
            have z7 : i < (fldV d t v).length := by omega
            obtain ⟨ba, oa, hAa, ea⟩ := (VV.up (M' := Ml) hv).at i z6
            obtain ⟨Ax, cx, x0, x1, x2, xs⟩ := ea.get
            obtain ⟨b5, o5, hA5, e5⟩ := (hf6.upI (M' := Ml)).at i z7
            have e5 : Mk Ml b5 (o5 + i * 1) (.int .i64 (fldV d t v)[i]) := e5
            refine AW.regionD mx true [0, 1, 2, 3, 4, 5, 6, 7, 8, 9, 10, 11, 12, 13, 14, 15, 16] [[], [], [], [1, 2], [1, 2, 3], [], [5], [], [5, 6, 7], [5, 6, 7, 8], [], [0, 1, 2, 3, 4, 5, 6, 7, 8, 9, 10], [0, 1, 2, 3, 4, 5, 6, 7, 8, 9, 10, 11], [0, 1, 2, 3, 4, 5, 6, 7, 8, 9, 10, 11, 12], [0, 1, 2, 3, 4, 5, 6, 7, 8, 9, 10, 11, 12], [0, 1, 2, 3, 4, 5, 6, 7, 8, 9, 10, 11, 12, 13], [0, 1, 2, 3, 4, 5, 6, 7, 8, 9, 10, 11, 12, 13, 14, 15]] (by kernel_rfl) ?_
            refine D.p rfl rfl V.move ?_
            refine D.p rfl rfl V.move ?_
            refine D.p rfl rfl V.move ?_
            refine D.p rfl rfl (V.ib i rfl z7 hA5) ?_
            refine D.p rfl rfl V.ld ?_
            refine D.p rfl rfl V.faz ?_
            refine D.p rfl rfl V.ld ?_
            refine D.p rfl rfl V.move ?_
            refine D.p rfl rfl (V.ib i rfl z6 hAa) ?_
            refine D.p rfl rfl V.ldA ?_
            refine D.p rfl rfl V.move ?_
            refine D.e rfl rfl (S.call ?_)
            refine (r_part_c d hT z v.args[i] (by have := List.sizeOf_lt_of_mem (List.getElem_mem z6); cases v; simp [VT.args] at *; omega) _ (fldV_rng hT ht hbv _ (List.getElem_mem z7)) n1 hn1 _ _ Ad cd Ax cx hd.upD (VV.up (x := v.args[i]) xs)).use ?_
            rintro v N G iz ⟨m9, rfl, hok, hG⟩
            obtain rfl := hG.symm
            refine D.p rfl rfl V.move ?_
            refine D.p rfl rfl V.ext ?_
            refine D.p rfl rfl V.ext ?_
            refine D.p rfl rfl V.assign ?_
            refine D.p rfl rfl V.assign ?_
            refine D.nl ?_
            refine AW.seq ?_
            refine AW.seq ?_
            refine AW.region ?_
            refine st V.move ?_
            refine st V.neq ?_
            refine sn ?_
            refine cond (fun h5 => ?_) (fun h5 => ?_)
            ·
              have k5 := bp h5
              refine AW.seq ?_
              refine AW.region ?_
              refine st V.move ?_
              refine st V.move ?_
              refine st V.assign ?_
              refine st V.assign ?_
              refine sn ?_
              refine AW.ret ?_
              repeat with_reducible first | refine thn_ret ?_ | refine inb_ret ?_
              refine fin (Res.i2 rfl) ?_
              have hw2 : wV d (fun (_ : Unit) _ _ => ()) t v n () = wV d (fun (_ : Unit) _ _ => ()) (fldV d t v)[i] v.args[i] n1 () := by rw [hw, wL_at d _ _ _ _ _ i z6 z7, if_pos (by omega)]
              exact ⟨_, (by repeat first | exact List.Sublist.refl _ | apply List.Sublist.cons), _, by rw [hw2], (fun h => absurd h (by rw [hw2]; omega)), rfl⟩
            ·
              have k5 := bp h5
              refine AW.skip ?_
              refine AW.region ?_
              refine st V.move ?_
              refine st V.assign ?_
              refine sn ?_
              refine AW.region ?_
              refine st V.move ?_
              refine st (V.add64 (by omega)) ?_
              refine st V.assign ?_
              refine sn ?_
              repeat with_reducible refine inb_normal ?_
              refine thn_normal ?_
              have hm := hok (by omega)
              refine rnd (m - 1) _ (by omega) (List.Sublist.refl _) ⟨i + 1, (wV d (fun (_ : Unit) _ _ => ()) (fldV d t v)[i] v.args[i] n1 ()).2.1, by rw [hm]; simp, rfl, by omega, wV_le d _ _ _ _ _ hn1, ?_⟩
              rw [hw, wL_at d _ _ _ _ _ i z6 z7, if_neg (fun h => h (by omega))]
          ·
            have k4 := bp h4
            refine AW.exit ?_
            repeat with_reducible refine thn_exit ?_
            refine inb_exit ?_
            refine AW.seq ?_
            refine AW.region ?_
            refine st V.move ?_
            refine st V.assign ?_
            refine st V.assign ?_
            refine sn ?_
            refine AW.ret ?_
            repeat with_reducible first | refine thn_ret ?_ | refine inb_ret ?_
            refine fin (Res.i2 rfl) ?_
            have hw2 : wV d (fun (_ : Unit) _ _ => ()) t v n () = (0, n1, ()) := by rw [hw, List.drop_eq_nil_of_le (by omega : v.args.length ≤ i)]; unfold wL; rfl
            exact ⟨_, (by repeat first | exact List.Sublist.refl _ | apply List.Sublist.cons), _, by rw [hw2], (fun _ => by rw [hw2]), rfl⟩
set_option maxHeartbeats 1600000 in
set_option synthInstance.maxHeartbeats 400000 in
set_option synthInstance.maxSize 100000 in
set_option maxRecDepth 100000 in
theorem r_cells_c (M : Mem) (H : Heap) (Ad : Option Addr) (cd : Nat) (d : List DT) (hd : RdS 2 (RdD M) Ad cd d) (t : Int) (A : Option Addr) (c : Nat) (v : VT) (hv : VV M A c v) :
    AC Tryz.prog 14 [.slice Ad d.length cd, .int .i64 t, .agg #[.int .i64 v.num, .int .i64 v.con, .slice A v.args.length c]] M H fun r _ H' => r = .tuple #[.int .i64 (cellsF d t v).1, .int .i64 (cellsF d t v).2] ∧ H' = H := by
  refine AC.of (n := 25) Tryz.func14 rfl rfl ?_
  dsimp only [List.replicate, List.cons_append, List.nil_append]
  refine AW.seq ?_
  refine AW.region ?_
  refine se (S.boxM ?_); intro b5 M5 i5 j5
  refine st V.assign ?_
  refine st V.assign ?_
  refine sn ?_
  refine AW.seq ?_
  refine AW.seq ?_
  refine AW.region ?_
  refine st V.move ?_
  refine st V.move ?_
  refine se (S.call ?_)
  refine (r_table_c _ _ Ad cd d hd.upD t).use ?_
  rintro v N G iz ⟨rfl, hG⟩
  obtain rfl := hG.symm
  refine st V.assign ?_
  refine sn ?_
  refine AW.seq ?_
  refine AW.region ?_
  refine st V.move ?_
  refine st V.neq ?_
  refine sn ?_
  refine cond (fun h1 => ?_) (fun h1 => ?_)
  ·
    have k1 := bp h1
    refine AW.seq ?_
    refine AW.region ?_
    refine st V.move ?_
    refine st V.assign ?_
    refine st V.assign ?_
    refine sn ?_
    refine AW.ret ?_
    repeat with_reducible first | refine thn_ret ?_ | refine inb_ret ?_
    refine fin (Res.i2 rfl) ?_
    exact ⟨_, (by repeat first | exact List.Sublist.refl _ | apply List.Sublist.cons), by rw [cellsF, if_pos k1], rfl⟩
  ·
    have k1 := bp h1
    refine AW.skip ?_
    refine AW.seq ?_
    obtain ⟨hc0, ht⟩ := tableF_ok k1
    have hT := (checkF_ok hc0).2.2.2.1
    refine AW.region ?_
    refine st V.move ?_
    refine st V.move ?_
    first | refine st V.ldA ?_ | refine sq V.loA ?_
    refine se (S.call ?_)
    refine (r_part_c d hT (SizeOf.sizeOf v + 1) v (by omega) t ht 0 (by omega) _ H Ad cd A c hd.upD (VV.up hv)).use ?_
    rintro v N G iz ⟨m9, rfl, hok, hG⟩
    obtain rfl := hG.symm
    refine st V.move ?_
    refine st V.ext ?_
    refine st V.ext ?_
    refine st V.assign ?_
    refine st V.assign ?_
    refine sn ?_
    refine AW.seq ?_
    refine AW.seq ?_
    refine AW.region ?_
    refine st V.move ?_
    refine st V.neq ?_
    refine sn ?_
    refine cond (fun h2 => ?_) (fun h2 => ?_)
    ·
      have k2 := bp h2
      refine AW.seq ?_
      refine AW.region ?_
      refine st V.move ?_
      refine st V.assign ?_
      refine st V.assign ?_
      refine sn ?_
      refine AW.ret ?_
      repeat with_reducible first | refine thn_ret ?_ | refine inb_ret ?_
      refine fin (Res.i2 rfl) ?_
      exact ⟨_, (by repeat first | exact List.Sublist.refl _ | apply List.Sublist.cons), by rw [cellsF, if_neg (fun h => h k1), if_pos k2], rfl⟩
    ·
      have k2 := bp h2
      refine AW.skip ?_
      refine AW.seq ?_
      refine AW.region ?_
      refine st V.move ?_
      refine st V.assign ?_
      refine st V.assign ?_
      refine sn ?_
      refine AW.ret ?_
      repeat with_reducible first | refine thn_ret ?_ | refine inb_ret ?_
      refine fin (Res.i2 rfl) ?_
      exact ⟨_, (by repeat first | exact List.Sublist.refl _ | apply List.Sublist.cons), by rw [cellsF, if_neg (fun h => h k1), if_neg (fun h => h k2), hok k2], rfl⟩
set_option maxHeartbeats 1600000 in
set_option synthInstance.maxHeartbeats 400000 in
set_option synthInstance.maxSize 100000 in
set_option maxRecDepth 100000 in
theorem r_vcheck_c (M : Mem) (H : Heap) (Ad : Option Addr) (cd : Nat) (d : List DT) (hd : RdS 2 (RdD M) Ad cd d) (t : Int) (A : Option Addr) (c : Nat) (v : VT) (hv : VV M A c v) :
    AC Tryz.prog 39 [.slice Ad d.length cd, .int .i64 t, .agg #[.int .i64 v.num, .int .i64 v.con, .slice A v.args.length c]] M H fun r _ H' => r = .int .i64 (cellsF d t v).2 ∧ H' = H := by
  refine AC.of (n := 14) Tryz.func39 rfl rfl ?_
  dsimp only [List.replicate, List.cons_append, List.nil_append]
  refine AW.seq ?_
  refine AW.region ?_
  refine se (S.boxM ?_); intro b5 M5 i5 j5
  refine st V.assign ?_
  refine sn ?_
  refine AW.seq ?_
  refine AW.region ?_
  refine st V.move ?_
  refine st V.move ?_
  first | refine st V.ldA ?_ | refine sq V.loA ?_
  refine se (S.call ?_)
  refine (r_cells_c _ _ Ad cd d hd.upD t A c v (VV.up hv)).use ?_
  rintro v N G iz ⟨rfl, hG⟩
  obtain rfl := hG.symm
  refine st V.move ?_
  refine st V.ext ?_
  refine st V.ext ?_
  refine st V.assign ?_
  refine st V.assign ?_
  refine sn ?_
  refine AW.seq ?_
  refine AW.region ?_
  refine st V.move ?_
  refine st V.assign ?_
  refine sn ?_
  refine AW.ret ?_
  repeat with_reducible first | refine thn_ret ?_ | refine inb_ret ?_
  refine fin (Res.i1 rfl) ?_
  exact ⟨_, (by repeat first | exact List.Sublist.refl _ | apply List.Sublist.cons), rfl, rfl⟩
end Go.Proofs.YtieaiheejhmbfaaGreatDoor.ML
