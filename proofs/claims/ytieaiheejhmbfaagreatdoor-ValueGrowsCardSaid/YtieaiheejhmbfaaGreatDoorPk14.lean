/- Walks of functions of the program, in the abstract layer. No conditions. -/
import Derived.Test.YtieaiheejhmbfaaGreatDoorPk13
namespace Go.Proofs.YtieaiheejhmbfaaGreatDoor.ML
open Go.RowKit
set_option linter.unusedVariables false
set_option linter.unusedSimpArgs false
set_option maxHeartbeats 1600000 in
set_option synthInstance.maxHeartbeats 400000 in
set_option synthInstance.maxSize 100000 in
set_option maxRecDepth 100000 in
theorem ex59_c (d : List DT) (hT : TypedP d) (hB : ∀ i (h : i < d.length), d[i].cons.length ≤ 1000 ∧ ∀ j (h' : j < d[i].cons.length), d[i].cons[j].fields.length ≤ 1000) (n : Nat) (hn6 : n ≤ 1000000) (hex : ∀ (σ : Type) (J : Bool → σ → Heap) (f : σ → VT → σ × Bool) (fy : Value) (_ : Fv fy) (t : Int) (k : Nat), k < n → (0 ≤ t ∧ t ≤ d.length) → ∀ (s : σ) (M : Mem) (Ad : Option Addr) (cd : Nat), RdS 2 (RdD M) Ad cd d → CbV Tryz.prog M fy J f → AC Tryz.prog 59 [.slice Ad d.length cd, .int .i64 t, .int .i64 k, fy] M (J true s) fun r _ H' => r = .bool (sf f s (exA d n t k)).2 ∧ H' = J (sf f s (exA d n t k)).2 (sf f s (exA d n t k)).1) (σ : Type) (J : Bool → σ → Heap) (f : σ → VT → σ × Bool) (fy : Value) (_ : Fv fy) (t : Int) (k : Nat) (hk : k < n + 1) (ht : 0 ≤ t ∧ t ≤ d.length) (s : σ) (M : Mem) (Ad : Option Addr) (cd : Nat) (hd : RdS 2 (RdD M) Ad cd d) (hy : CbV Tryz.prog M fy J f) :
    AC Tryz.prog 59 [.slice Ad d.length cd, .int .i64 t, .int .i64 k, fy] M (J true s) fun r _ H' => r = .bool (sf f s (exA d (n + 1) t k)).2 ∧ H' = J (sf f s (exA d (n + 1) t k)).2 (sf f s (exA d (n + 1) t k)).1 := by
  refine AC.of (n := 59) Tryz.func59 rfl rfl ?_
  dsimp only [List.replicate, List.cons_append, List.nil_append]
  refine AW.seq ?_
  refine AW.region ?_
  refine se (S.boxM ?_); intro b7 M7 i7 j7
  refine st V.assign ?_
  refine sn ?_
  refine AW.seq ?_
  refine AW.seq ?_
  refine AW.region ?_
  refine st V.move ?_
  refine st V.eql ?_
  refine sn ?_
  refine cond (fun h1 => ?_) (fun h1 => ?_)
  ·
    have k1 := bp h1
    refine AW.seq ?_
    refine AW.region ?_
    refine st V.move ?_
    refine st V.gtr ?_
    refine st V.move ?_
    refine onoff true rfl rfl (fun h2 => ?_) (fun h2 => ?_)
    ·
      have k2 := bp h2
      first | refine st V.ld ?_ | refine sq V.lo ?_
      refine on rfl h2 ?_
      refine st (V.build (cells := [.int .i64 0, .int .i64 0, .slice none 0 0]) rfl) ?_
      refine on rfl h2 ?_
      refine se (S.callV ?_)
      refine (hy _ inferInstance s ⟨0, 0, []⟩ none 0 (.mk (by simp) (by simp)) RdS.nil).use ?_
      rintro v N G iz ⟨rfl, hG⟩
      subst hG
      refine on rfl h2 ?_
      refine st V.move ?_
      refine onoff false rfl rfl (fun h3 => ?_) (fun h3 => ?_)
      ·
        have k3 := bp h3
        first | refine st V.ld ?_ | refine sq V.lo ?_
        refine on rfl h3 ?_
        refine st (V.build (cells := [.int .i64 1, .int .i64 0, .slice none 0 0]) rfl) ?_
        refine on rfl h3 ?_
        refine AO.heq (H' := J true (f s ⟨0, 0, []⟩).1) (by rw [h3]) ?_
        refine se (S.callV ?_)
        refine (hy _ inferInstance _ ⟨1, 0, []⟩ none 0 (.mk (by simp) (by simp)) RdS.nil).use ?_
        rintro v9 N9 G9 iz9 ⟨rfl, hG⟩
        subst hG
        refine on rfl h2 ?_
        refine st (V.pT h3) ?_
        refine st (V.pF h2) ?_
        refine st V.assign ?_
        refine sn ?_
        refine AW.ret ?_
        repeat with_reducible first | refine thn_ret ?_ | refine inb_ret ?_
        refine fin (Res.i1 rfl) ?_
        have e0 : exA d (n + 1) t k = [⟨0, 0, []⟩, ⟨1, 0, []⟩] := by rw [exA, if_pos k1, if_pos (by omega)]
        rw [e0]
        refine ⟨_, List.Sublist.refl _, ?_, ?_⟩ <;> (simp only [sf, h3, if_true]; split <;> simp_all)
      ·
        have k3 := bp h3
        refine off rfl h3 ?_
        refine off rfl h3 ?_
        refine on rfl h2 ?_
        refine st (V.pF h3) ?_
        refine st (V.pF h2) ?_
        refine st V.assign ?_
        refine sn ?_
        refine AW.ret ?_
        repeat with_reducible first | refine thn_ret ?_ | refine inb_ret ?_
        refine fin (Res.i1 rfl) ?_
        have e0 : exA d (n + 1) t k = [⟨0, 0, []⟩, ⟨1, 0, []⟩] := by rw [exA, if_pos k1, if_pos (by omega)]
        rw [e0]
        refine ⟨_, List.Sublist.refl _, ?_, ?_⟩ <;> simp [sf, h3]
    ·
      have k2 := bp h2
      refine off rfl h2 ?_
      refine off rfl h2 ?_
      refine off rfl h2 ?_
      refine offU rfl ?_
      refine offU rfl ?_
      refine offU rfl ?_
      refine off rfl h2 ?_
      refine st (V.pT h2) ?_
      refine st V.assign ?_
      refine sn ?_
      refine AW.ret ?_
      repeat with_reducible first | refine thn_ret ?_ | refine inb_ret ?_
      refine fin (Res.i1 rfl) ?_
      have e0 : exA d (n + 1) t k = [] := by rw [exA, if_pos k1, if_neg (by omega)]
      rw [e0]
      exact ⟨_, (by repeat first | exact List.Sublist.refl _ | apply List.Sublist.cons), rfl, rfl⟩
  ·
    have k1 := bp h1
    refine AW.skip ?_
    refine AW.seq ?_
    refine AW.seq ?_
    obtain ⟨p, rfl⟩ : ∃ p : Nat, t = (p : Int) + 1 := ⟨(t - 1).toNat, by omega⟩
    have hp0 : p < d.length := by omega
    obtain ⟨b8, o8, hA8, i0, ib0, A8, c8, i1, i2⟩ := hd.at p hp0
    have hb8 := i2.bd
    have hbd := hd.bd
    refine AW.region ?_
    refine st V.move ?_
    refine st V.move ?_
    refine st (V.sub64 (by omega)) ?_
    refine st (V.ib p (by omega) hp0 hA8) ?_
    refine st V.fa ?_
    first | refine st V.ld ?_ | refine sq V.lo ?_
    refine st V.len ?_
    refine st V.move ?_
    refine sn ?_
    refine AW.block ?_
    refine AW.loopL [32] (8 :: 9 :: 10 :: 33 :: 34 :: 35 :: 36 :: 37 :: 38 :: 39 :: 40 :: 41 :: 42 :: 43 :: 44 :: 45 :: 46 :: 47 :: 48 :: 49 :: 50 :: 51 :: 52 :: 53 :: 54 :: 55 :: 56 :: 57 :: 58 :: 59 :: 60 :: 61 :: 62 :: []) (fun m vs M' H' => ∃ (i : Nat) (s1 : σ), vs = [.int .i64 (i : Int)] ∧ H' = J true s1 ∧ i + m = d[p].cons.length ∧ sf f s (exA d (n + 1) ((p : Int) + 1) k) = sf f s1 (consV (lsV (exA d n)) k (0 + i) (d[p].cons.drop i))) (d[p].cons.length) (⟨0, s, rfl, rfl, by omega, by rw [exA, if_neg (by omega), consF_at d p hp0]; rfl⟩) ?_
    intro m Ml Hl iL u32 hI u8 u9 u10 u33 u34 u35 u36 u37 u38 u39 u40 u41 u42 u43 u44 u45 u46 u47 u48 u49 u50 u51 u52 u53 u54 u55 u56 u57 u58 u59 u60 u61 u62
    obtain ⟨i, s1, hv, hH, hi, hw⟩ := hI
    subst hH
    cases hv
    refine sa ?_
    refine AW.seq ?_
    refine AW.region ?_
    refine st V.lss ?_
    refine sn ?_
    refine AW.seq ?_
    refine cond (fun h4 => ?_) (fun h4 => ?_)
    ·
      have k4 := bp h4
      refine AW.skip ?_
      refine AW.seq ?_
      refine AW.block ?_
      refine AW.seq ?_
      have z6 : i < d[p].cons.length := by omega
      obtain ⟨bq, oq, hAq, e0, eb, Aq, cq, q1, q2⟩ := (i2.upC (M' := Ml)).at i z6
      have hbf := q2.bd
      have hbf2 := (hB p hp0).2 i z6
      refine AW.region ?_
      refine st V.move ?_
      refine st (V.ib i rfl z6 hAq) ?_
      first | refine st V.ldA ?_ | refine sq V.loA ?_
      refine se (S.alloc ?_); intro b9
      refine se (S.alloc ?_); intro b10
      refine se (S.store ?_)
      refine se (S.storeA rfl ?_)
      refine sn ?_
      refine AW.block ?_
      refine AW.seq ?_
      refine AW.fz 0 fun Ma ia ja => ?_
      refine AW.fz 0 fun Mz iz jz => ?_
      refine AW.region ?_
      refine st V.faz ?_
      first | refine st V.ld ?_ | refine sq V.lo ?_
      refine st V.len ?_
      refine st V.eql ?_
      refine st V.assign ?_
      refine sn ?_
      refine cond (fun h5 => ?_) (fun h5 => ?_)
      ·
        have k5 := bp h5
        refine AW.seq ?_
        refine AW.region ?_
        refine st V.move ?_
        refine st V.eql ?_
        refine st V.move ?_
        refine onoff false rfl rfl (fun h6 => ?_) (fun h6 => ?_)
        ·
          have k6 := bp h6
          first | refine st V.ld ?_ | refine sq V.lo ?_
          refine on rfl h6 ?_
          first | refine st V.ld ?_ | refine sq V.lo ?_
          refine on rfl h6 ?_
          refine st (V.build (cells := [.int .i64 0, .int .i64 i, .slice none 0 0]) rfl) ?_
          refine on rfl h6 ?_
          refine se (S.callV ?_)
          refine (hy _ inferInstance s1 ⟨0, i, []⟩ none 0 (.mk (by simp) (by simp)) RdS.nil).use ?_
          rintro v N G iz ⟨rfl, hG⟩
          subst hG
          refine on rfl h6 ?_
          refine st V.not ?_
          refine st (V.pT h6) ?_
          refine sn ?_
          refine cond (fun h7 => ?_) (fun h7 => ?_)
          ·
            have k7 := bp h7
            refine AW.seq ?_
            refine AW.region ?_
            refine st V.assign ?_
            refine sn ?_
            refine AW.ret ?_
            repeat with_reducible first | refine thn_ret ?_ | refine inb_ret ?_
            refine fin (Res.i1 rfl) ?_
            have h9 := h7
            simp at h9
            have e0 : sf f s (exA d (n + 1) ((p : Int) + 1) k) = ((f s1 ⟨0, i, []⟩).1, false) := by rw [hw, consV_step _ _ _ _ _ z6, conV_0 (by omega) (by omega)]; simp [sf, h9]
            rw [e0]
            exact ⟨_, (by repeat first | exact List.Sublist.refl _ | apply List.Sublist.cons), rfl, by rw [h9]⟩
          ·
            have k7 := bp h7
            refine AW.skip ?_
            refine AW.region ?_
            refine st (V.add64 (by omega)) ?_
            refine st V.move ?_
            refine sn ?_
            repeat with_reducible refine inb_normal ?_
            refine thn_normal ?_
            simp at h7
            refine rnd (m - 1) _ (by omega) (List.Sublist.refl _) ⟨i + 1, _, by simp, by rw [h7], by omega, ?_⟩
            rw [hw, consV_step _ _ _ _ _ z6, conV_0 (by omega) (by omega)]
            simp [sf, h7]
        ·
          have k6 := bp h6
          refine off rfl h6 ?_
          refine off rfl h6 ?_
          refine off rfl h6 ?_
          refine off rfl h6 ?_
          refine st (V.pF h6) ?_
          refine sn ?_
          refine cond (fun h => by cases h) (fun _ => ?_)
          refine AW.skip ?_
          refine AW.region ?_
          refine st (V.add64 (by omega)) ?_
          refine st V.move ?_
          refine sn ?_
          repeat with_reducible refine inb_normal ?_
          refine thn_normal ?_
          refine rnd (m - 1) _ (by omega) (List.Sublist.refl _) ⟨i + 1, _, by simp, rfl, by omega, ?_⟩
          rw [hw, consV_step _ _ _ _ _ z6, conV_1 (by omega) (by omega)]
          simp [sf]
      ·
        have k5 := bp h5
        refine AW.seq ?_
        refine AW.region ?_
        refine st V.move ?_
        refine st V.gtr ?_
        refine st V.assign ?_
        refine sn ?_
        refine cond (fun h9 => ?_) (fun h9 => ?_)
        ·
          have k9 := bp h9
          refine AW.seq ?_
          refine AW.region ?_
          refine st V.move ?_
          refine st V.faz ?_
          first | refine st V.ld ?_ | refine sq V.lo ?_
          refine st V.move ?_
          refine st (V.sub64 (by omega)) ?_
          refine st V.fn ?_
          have e1 : ((k : Int) - 1) = ((k - 1 : Nat) : Int) := by omega
          refine se (S.call ?_)
          rw [e1]
          have LN : LeT M Mz := inferInstance
          refine (lists85_c d n hn6 hex (d[p].cons[i].fields.length + 1) d[p].cons[i].fields (by omega) (hT p hp0 i z6) (by omega) (k - 1) (by omega) σ J (fun s l => f s ⟨0, i, l⟩) (.func (.func 86) #[] #[.pointer (some ⟨b7, 0, none⟩), .pointer (some ⟨b9, 0, none⟩)]) inferInstance s1 _ Ad cd Aq cq hd.upD q2.upI (fun M2 q s' l' A' c' hl' hb' hr' _ => AV.func (fst := #[]) (cap := #[_, _]) (exa1_c J f fy M2 b7 b9 i (Mb.up (h := LeT.tr (inferInstance : LeT M7 Mz) q) j7) (Mb.up (h := q) jz) (CbV.up (q := LeT.tr LN q) hy) s' A' c' l' hr' (by omega) hb'))).use ?_
          rintro v2 N2 G2 iz2 ⟨rfl, hG⟩
          subst hG
          refine st V.not ?_
          refine sn ?_
          refine cond (fun h10 => ?_) (fun h10 => ?_)
          ·
            have k10 := bp h10
            refine AW.seq ?_
            refine AW.region ?_
            refine st V.assign ?_
            refine sn ?_
            refine AW.ret ?_
            repeat with_reducible first | refine thn_ret ?_ | refine inb_ret ?_
            refine fin (Res.i1 rfl) ?_
            have h9 := h10
            simp at h9
            have e0 : sf f s (exA d (n + 1) ((p : Int) + 1) k) = ((sf (fun s l => f s ⟨0, i, l⟩) s1 (lsV (exA d n) d[p].cons[i].fields (k - 1))).1, false) := by rw [hw, consV_step _ _ _ _ _ z6, conV_3 (by omega) (by omega), if_neg (by simpa using h9), ← h9]
            rw [e0]
            exact ⟨_, (by repeat first | exact List.Sublist.refl _ | apply List.Sublist.cons), rfl, by rw [h9]⟩
          ·
            have k10 := bp h10
            refine AW.skip ?_
            refine AW.region ?_
            refine st (V.add64 (by omega)) ?_
            refine st V.move ?_
            refine sn ?_
            repeat with_reducible refine inb_normal ?_
            refine thn_normal ?_
            have h9 := h10
            simp at h9
            refine rnd (m - 1) _ (by omega) (List.Sublist.refl _) ⟨i + 1, _, by simp, by rw [h9], by omega, ?_⟩
            rw [hw, consV_step _ _ _ _ _ z6, conV_3 (by omega) (by omega), if_pos (by simpa using h9)]
        ·
          have k9 := bp h9
          refine AW.skip ?_
          refine AW.region ?_
          refine st (V.add64 (by omega)) ?_
          refine st V.move ?_
          refine sn ?_
          repeat with_reducible refine inb_normal ?_
          refine thn_normal ?_
          refine rnd (m - 1) _ (by omega) (List.Sublist.refl _) ⟨i + 1, _, by simp, rfl, by omega, ?_⟩
          rw [hw, consV_step _ _ _ _ _ z6, conV_2 (by omega) (by omega)]
          simp [sf]
    ·
      have k4 := bp h4
      refine AW.exit ?_
      repeat with_reducible refine thn_exit ?_
      refine inb_exit ?_
      refine AW.seq ?_
      refine AW.region ?_
      refine st V.assign ?_
      refine sn ?_
      refine AW.ret ?_
      repeat with_reducible first | refine thn_ret ?_ | refine inb_ret ?_
      refine fin (Res.i1 rfl) ?_
      have e0 : sf f s (exA d (n + 1) ((p : Int) + 1) k) = (s1, true) := by rw [hw, List.drop_eq_nil_of_le (by omega)]; rfl
      rw [e0]
      exact ⟨_, (by repeat first | exact List.Sublist.refl _ | apply List.Sublist.cons), rfl, rfl⟩
set_option maxHeartbeats 1600000 in
set_option synthInstance.maxHeartbeats 400000 in
set_option synthInstance.maxSize 100000 in
set_option maxRecDepth 100000 in
theorem lim1_c (d : List DT) (hT : TypedP d) (hd8 : d.length ≤ 1000000) (most : Int) (hm0 : 0 ≤ most) (hm1 : most ≤ 1000000) (b3 b5 b9 : Nat) : ∀ (z : Nat) (t : Int), (reachF d t).length < z → (∀ u ∈ reachF d t, recF d u = false) → (0 ≤ t ∧ t ≤ d.length) → ∀ (M : Mem) (H : Heap) (Ad : Option Addr) (cd : Nat),
    Mb M b3 [.slice Ad d.length cd] → Mb M b5 [.int .i64 most] → Mb M b9 [.func (.func 84) #[] #[.pointer (some ⟨b3, 0, none⟩), .pointer (some ⟨b5, 0, none⟩), .pointer (some ⟨b9, 0, none⟩)]] → RdS 2 (RdD M) Ad cd d →
    AC Tryz.prog 84 [.int .i64 t, .pointer (some ⟨b3, 0, none⟩), .pointer (some ⟨b5, 0, none⟩), .pointer (some ⟨b9, 0, none⟩)] M H fun r _ H' => r = .int .i64 (clF d most z t) ∧ H' = H
  | 0, t, hz => by omega
  | z + 1, t, hz => by
    intro hr ht M H Ad cd q3 q5 q9 hd
    have hbd := hd.bd
    refine AC.of (n := 45) Tryz.func84 rfl rfl ?_
    dsimp only [List.replicate, List.cons_append, List.nil_append]
    refine AW.seq ?_
    refine AW.region ?_
    refine st V.assign ?_
    refine sn ?_
    refine AW.seq ?_
    refine AW.region ?_
    refine st V.assign ?_
    refine sn ?_
    refine AW.seq ?_
    refine AW.seq ?_
    refine AW.region ?_
    refine st V.move ?_
    refine st V.eql ?_
    refine sn ?_
    refine cond (fun h1 => ?_) (fun h1 => ?_)
    ·
      have k1 := bp h1
      refine AW.seq ?_
      refine AW.region ?_
      refine st V.move ?_
      refine st V.assign ?_
      refine sn ?_
      refine AW.ret ?_
      repeat with_reducible first | refine thn_ret ?_ | refine inb_ret ?_
      refine fin (Res.i1 rfl) ?_
      exact ⟨_, (by repeat first | exact List.Sublist.refl _ | apply List.Sublist.cons), by rw [clF, if_pos k1], rfl⟩
    ·
      have k1 := bp h1
      refine AW.skip ?_
      refine AW.seq ?_
      refine AW.seq ?_
      obtain ⟨p, rfl⟩ : ∃ p : Nat, t = (p : Int) + 1 := ⟨(t - 1).toNat, by omega⟩
      have hp0 : p < d.length := by omega
      obtain ⟨b8, o8, hA8, i0, ib0, A8, c8, i1, i2⟩ := hd.at p hp0
      have hb8 := i2.bd
      refine AW.region ?_
      first | refine st V.ld ?_ | refine sq V.lo ?_
      refine st V.move ?_
      refine st (V.sub64 (by omega)) ?_
      refine st (V.ib p (by omega) hp0 hA8) ?_
      refine st V.fa ?_
      first | refine st V.ld ?_ | refine sq V.lo ?_
      refine st V.len ?_
      refine st V.move ?_
      refine sn ?_
      refine AW.block ?_
      refine AW.loopL [6, 22] (8 :: 9 :: 10 :: 11 :: 23 :: 24 :: 25 :: 26 :: 27 :: 28 :: 29 :: 30 :: 31 :: 32 :: 33 :: 34 :: 35 :: 36 :: 37 :: 38 :: 39 :: 40 :: 41 :: 42 :: 43 :: 44 :: 45 :: 46 :: 47 :: []) (fun m vs M' H' => ∃ (i : Nat) (b : Int), vs = [.int .i64 b, .int .i64 (i : Int)] ∧ H' = H ∧ i + m = d[p].cons.length ∧ 0 ≤ b ∧ b ≤ most ∧ b = bestN most (clF d most z) (d[p].cons.take i) 0) (d[p].cons.length) (⟨0, 0, rfl, rfl, by omega, by omega, by omega, rfl⟩) ?_
      intro m Ml Hl iL u6 u22 hI u8 u9 u10 u11 u23 u24 u25 u26 u27 u28 u29 u30 u31 u32 u33 u34 u35 u36 u37 u38 u39 u40 u41 u42 u43 u44 u45 u46 u47
      obtain ⟨i, b, hv, hH, hi, hb0, hb1, hb⟩ := hI
      subst hH
      cases hv
      refine sa ?_
      refine AW.seq ?_
      refine AW.region ?_
      refine st V.lss ?_
      refine sn ?_
      refine AW.seq ?_
      refine cond (fun h2 => ?_) (fun h2 => ?_)
      ·
        have k2 := bp h2
        refine AW.skip ?_
        refine AW.seq ?_
        refine AW.block ?_
        refine AW.seq ?_
        have z6 : i < d[p].cons.length := by omega
        obtain ⟨bq, oq, hAq, e0, eb, Aq, cq, e1, q2⟩ := (i2.upC (M' := Ml)).at i z6
        have hbf := q2.bd
        refine AW.region ?_
        refine st (V.ib i rfl z6 hAq) ?_
        first | refine st V.ldA ?_ | refine sq V.loA ?_
        refine se (S.alloc ?_); intro b8
        refine se (S.storeA rfl ?_)
        refine sn ?_
        refine AW.seq ?_
        refine AW.fz 0 fun Ma ia ja => ?_
        refine AW.region ?_
        refine st V.assign ?_
        refine sn ?_
        refine AW.seq ?_
        refine AW.seq ?_
        refine AW.region ?_
        refine st V.faz ?_
        first | refine st V.ld ?_ | refine sq V.lo ?_
        refine st V.len ?_
        refine st V.move ?_
        refine sn ?_
        refine AW.block ?_
        refine AW.loopL [9, 29] (10 :: 11 :: 30 :: 31 :: 32 :: 33 :: 34 :: 35 :: 36 :: 37 :: 38 :: 39 :: 40 :: 41 :: 42 :: 43 :: []) (fun m vs M' H' => ∃ (j : Nat) (n : Int), vs = [.int .i64 n, .int .i64 (j : Int)] ∧ H' = Hl ∧ j + m = d[p].cons[i].fields.length ∧ 0 ≤ n ∧ n ≤ 1000001 ∧ n = sumN most (clF d most z) (d[p].cons[i].fields.take j)) (d[p].cons[i].fields.length) (⟨0, 0, rfl, rfl, by omega, by omega, by omega, rfl⟩) ?_
        intro m1 Ml1 Hl1 iL1 u9 u29 hI1 u10 u11 u30 u31 u32 u33 u34 u35 u36 u37 u38 u39 u40 u41 u42 u43
        obtain ⟨j, n, hv, hH, hj, hn0, hn1, hn2⟩ := hI1
        subst hH
        cases hv
        refine sa ?_
        refine AW.seq ?_
        refine AW.region ?_
        refine st V.lss ?_
        refine sn ?_
        refine AW.seq ?_
        refine cond (fun h3 => ?_) (fun h3 => ?_)
        ·
          have k3 := bp h3
          refine AW.skip ?_
          refine AW.seq ?_
          refine AW.block ?_
          refine AW.seq ?_
          have z9 : j < d[p].cons[i].fields.length := by omega
          obtain ⟨bw, ow, hAw, ew⟩ := (q2.upI (M' := Ml1)).at j z9
          have ew : Mk Ml1 bw (ow + j * 1) (.int .i64 d[p].cons[i].fields[j]) := ew
          have hff : d[p].cons[i].fields[j] ∈ fieldsF d ((p : Int) + 1) := by rw [fields_at d p hp0]; exact List.mem_flatMap.2 ⟨_, List.getElem_mem z6, List.getElem_mem z9⟩
          have hcb := clF_bd (d := d) hm0 z d[p].cons[i].fields[j]
          refine AW.region ?_
          refine st V.move ?_
          refine st (V.ib j rfl z9 hAw) ?_
          first | refine st V.ld ?_ | refine sq V.lo ?_
          refine st V.assign ?_
          refine st V.assign ?_
          refine sn ?_
          refine AW.seq ?_
          refine AW.seq ?_
          refine AW.region ?_
          refine st V.move ?_
          refine st V.eql ?_
          refine sn ?_
          refine cond (fun h4 => ?_) (fun h4 => ?_)
          ·
            have k4 := bp h4
            refine AW.region ?_
            refine st V.assign ?_
            refine sn ?_
            refine AW.regionD mx true [0, 1, 2, 3, 4, 5, 6, 7] [[], [], [], [], [2, 3], [1, 2, 3, 4], [0, 1, 2, 3, 4, 5], [0, 1, 2, 3, 4, 5, 6]] (by kernel_rfl) ?_
            refine D.p rfl rfl V.ld ?_
            refine D.p rfl rfl V.move ?_
            refine D.p rfl rfl V.ld ?_
            refine D.p rfl rfl V.move ?_
            refine D.e rfl rfl (S.call ?_)
            refine (lim1_c d hT hd8 most hm0 hm1 b3 b5 b9 z d[p].cons[i].fields[j] (by have := reach_less (typed_fields hT) ht hff (hr _ (reach_closed (typed_fields hT) ht).1); omega) (fun u hu => hr u (reach_sub (typed_fields hT) ht hff hu)) (typed_fields hT _ _ hff) _ _ Ad cd inferInstance inferInstance inferInstance hd.upD).use ?_
            rintro v N G iz ⟨rfl, hG⟩
            obtain rfl := hG.symm
            refine D.p rfl rfl (V.add64 (by omega)) ?_
            refine D.p rfl rfl V.min ?_
            refine D.p rfl rfl V.assign ?_
            refine D.nl ?_
            refine AW.region ?_
            refine st (V.add64 (by omega)) ?_
            refine st V.move ?_
            refine sn ?_
            repeat with_reducible refine inb_normal ?_
            refine thn_normal ?_
            refine rnd (m1 - 1) _ (by omega) (List.Sublist.refl _) ⟨j + 1, stepN most (clF d most z) 1 d[p].cons[i].fields[j], by simp [stepN], rfl, by omega, (stepN_bd hm0 (by omega) hcb.1).1, by have := (stepN_bd (cl := clF d most z) (n := 1) hm0 (by omega) hcb.1).2; omega, ?_⟩
            rw [take_succ _ _ z9, sumN_push, if_pos (by have e : j = 0 := (by omega); subst e; rfl)]
          ·
            have k4 := bp h4
            refine AW.skip ?_
            refine AW.regionD mx true [0, 1, 2, 3, 4, 5, 6, 7] [[], [], [], [], [2, 3], [1, 2, 3, 4], [0, 1, 2, 3, 4, 5], [0, 1, 2, 3, 4, 5, 6]] (by kernel_rfl) ?_
            refine D.p rfl rfl V.ld ?_
            refine D.p rfl rfl V.move ?_
            refine D.p rfl rfl V.ld ?_
            refine D.p rfl rfl V.move ?_
            refine D.e rfl rfl (S.call ?_)
            refine (lim1_c d hT hd8 most hm0 hm1 b3 b5 b9 z d[p].cons[i].fields[j] (by have := reach_less (typed_fields hT) ht hff (hr _ (reach_closed (typed_fields hT) ht).1); omega) (fun u hu => hr u (reach_sub (typed_fields hT) ht hff hu)) (typed_fields hT _ _ hff) _ _ Ad cd inferInstance inferInstance inferInstance hd.upD).use ?_
            rintro v N G iz ⟨rfl, hG⟩
            obtain rfl := hG.symm
            refine D.p rfl rfl (V.add64 (by omega)) ?_
            refine D.p rfl rfl V.min ?_
            refine D.p rfl rfl V.assign ?_
            refine D.nl ?_
            refine AW.region ?_
            refine st (V.add64 (by omega)) ?_
            refine st V.move ?_
            refine sn ?_
            repeat with_reducible refine inb_normal ?_
            refine thn_normal ?_
            refine rnd (m1 - 1) _ (by omega) (List.Sublist.refl _) ⟨j + 1, stepN most (clF d most z) n d[p].cons[i].fields[j], by simp [stepN], rfl, by omega, (stepN_bd hm0 (by omega) hcb.1).1, by have := (stepN_bd (cl := clF d most z) (n := n) hm0 (by omega) hcb.1).2; omega, ?_⟩
            rw [take_succ _ _ z9, sumN_push, if_neg (fun h => by rw [List.take_eq_nil_iff] at h; rcases h with h | h; omega; rw [h] at z9; simp at z9), ← hn2]
        ·
          have k3 := bp h3
          refine AW.exit ?_
          repeat with_reducible refine thn_exit ?_
          refine inb_exit ?_
          refine AW.region ?_
          refine st V.move ?_
          refine st V.move ?_
          refine st V.max ?_
          refine st V.assign ?_
          refine sn ?_
          refine AW.region ?_
          refine st (V.add64 (by omega)) ?_
          refine st V.move ?_
          refine sn ?_
          repeat with_reducible refine inb_normal ?_
          refine thn_normal ?_
          have e9 : (d[p].cons[i].fields.take j) = d[p].cons[i].fields := List.take_of_length_le (by omega)
          rw [e9] at hn2
          have hsm := sumN_bd hm0 d[p].cons[i].fields (fun f _ => (clF_bd (d := d) hm0 z f).1)
          refine rnd (m - 1) _ (by omega) (List.Sublist.refl _) ⟨i + 1, (if n > b then n else b), by simp, rfl, by omega, by split <;> omega, by split <;> omega, ?_⟩
          rw [take_succ _ _ z6, bestN, List.foldl_append, hn2]; rw [bestN] at hb; rw [← hb]; rfl
      ·
        have k2 := bp h2
        refine AW.exit ?_
        repeat with_reducible refine thn_exit ?_
        refine inb_exit ?_
        refine AW.seq ?_
        refine AW.region ?_
        refine st V.move ?_
        refine st V.assign ?_
        refine sn ?_
        refine AW.ret ?_
        repeat with_reducible first | refine thn_ret ?_ | refine inb_ret ?_
        refine fin (Res.i1 rfl) ?_
        have e0 : clF d most (z + 1) ((p : Int) + 1) = b := by rw [clF, if_neg (by omega), consF_at d p hp0, hb, List.take_of_length_le (by omega)]
        exact ⟨_, (by repeat first | exact List.Sublist.refl _ | apply List.Sublist.cons), by rw [e0], rfl⟩
set_option maxHeartbeats 1600000 in
set_option synthInstance.maxHeartbeats 400000 in
set_option synthInstance.maxSize 100000 in
set_option maxRecDepth 100000 in
theorem limit_c (d : List DT) (hT : TypedP d) (hd8 : d.length ≤ 1000000) (most : Int) (hm0 : 0 ≤ most) (hm1 : most ≤ 1000000) (t : Int) (ht : 0 ≤ t ∧ t ≤ d.length) (M : Mem) (H : Heap) (Ad : Option Addr) (cd : Nat) (hd : RdS 2 (RdD M) Ad cd d) :
    AC Tryz.prog 57 [.slice Ad d.length cd, .int .i64 t, .int .i64 most] M H fun r _ H' => r = .int .i64 (limF d t most) ∧ H' = H := by
  refine AC.of (n := 26) Tryz.func57 rfl rfl ?_
  dsimp only [List.replicate, List.cons_append, List.nil_append]
  refine AW.seq ?_
  refine AW.region ?_
  refine se (S.boxM ?_); intro b3 M3 i3 j3
  refine se (S.boxM ?_); intro b5 M5 i5 j5
  refine st V.assign ?_
  refine sn ?_
  refine AW.seq ?_
  refine AW.seq ?_
  refine AW.region ?_
  first | refine st V.ld ?_ | refine sq V.lo ?_
  refine st V.move ?_
  refine se (S.call ?_)
  refine (reach_c d hd8 _ _ Ad cd hd.upD t).use ?_
  rintro v N G iz ⟨Ar, cr, rfl, er, hG⟩
  obtain rfl := hG.symm
  have hrl := (reach_ok d t).len
  refine st V.len ?_
  refine st V.move ?_
  refine sn ?_
  refine AW.block ?_
  refine AW.loopL [14] (6 :: 8 :: 15 :: 16 :: 17 :: 18 :: 19 :: 20 :: 21 :: 22 :: []) (fun n vs M' H' => ∃ i : Nat, vs = [.int .i64 (i : Int)] ∧ H' = H ∧ i + n = (reachF d t).length ∧ ∀ k (h : k < (reachF d t).length), k < i → recF d (reachF d t)[k] = false) ((reachF d t).length) (⟨0, rfl, rfl, by omega, fun k _ h => by omega⟩) ?_
  intro n Ml Hl iL u14 hI u6 u8 u15 u16 u17 u18 u19 u20 u21 u22
  obtain ⟨i, hv, hH, hi, hall⟩ := hI
  obtain rfl := hH.symm
  cases hv
  refine sa ?_
  refine AW.seq ?_
  refine AW.region ?_
  refine st V.lss ?_
  refine sn ?_
  refine AW.seq ?_
  refine cond (fun h1 => ?_) (fun h1 => ?_)
  ·
    have k1 := bp h1
    refine AW.skip ?_
    refine AW.seq ?_
    refine AW.block ?_
    refine AW.seq ?_
    have z6 : i < (reachF d t).length := by omega
    obtain ⟨bw, ow, hAw, ew⟩ := (er.upI (M' := Ml)).at i z6
    have ew : Mk Ml bw (ow + i * 1) (.int .i64 (reachF d t)[i]) := ew
    refine AW.region ?_
    refine st (V.ib i rfl z6 hAw) ?_
    first | refine st V.ld ?_ | refine sq V.lo ?_
    refine st V.assign ?_
    refine sn ?_
    refine AW.seq ?_
    refine AW.region ?_
    first | refine st V.ld ?_ | refine sq V.lo ?_
    refine st V.move ?_
    refine se (S.call ?_)
    refine (rec_c d hd8 _ _ Ad cd hd.upD _).use ?_
    rintro v4 N4 G4 iz4 ⟨rfl, hG⟩
    obtain rfl := hG.symm
    refine sn ?_
    refine cond (fun h2 => ?_) (fun h2 => ?_)
    ·
      have k2 := bp h2
      refine AW.seq ?_
      refine AW.region ?_
      first | refine st V.ld ?_ | refine sq V.lo ?_
      refine st V.assign ?_
      refine sn ?_
      refine AW.ret ?_
      repeat with_reducible first | refine thn_ret ?_ | refine inb_ret ?_
      refine fin (Res.i1 rfl) ?_
      exact ⟨_, (by repeat first | exact List.Sublist.refl _ | apply List.Sublist.cons), by rw [limF, if_pos (any_at i z6 h2)], rfl⟩
    ·
      have k2 := bp h2
      refine AW.skip ?_
      refine AW.region ?_
      refine st (V.add64 (by omega)) ?_
      refine st V.move ?_
      refine sn ?_
      repeat with_reducible refine inb_normal ?_
      refine thn_normal ?_
      refine rnd (n - 1) _ (by omega) (List.Sublist.refl _) ⟨i + 1, by simp, rfl, by omega, fun k hk hki => ?_⟩
      rcases Nat.lt_or_ge k i with h | h
      · exact hall k hk h
      · obtain rfl : k = i := by omega
        exact h2
  ·
    have k1 := bp h1
    refine AW.exit ?_
    repeat with_reducible refine thn_exit ?_
    refine inb_exit ?_
    refine AW.seq ?_
    refine AW.region ?_
    refine se (S.alloc ?_); intro b9
    refine sn ?_
    refine AW.seq ?_
    refine AW.region ?_
    refine st V.fn ?_
    refine se (S.store ?_)
    refine sn ?_
    refine AW.seq ?_
    have hra : (reachF d t).any (recF d) = false := any_none fun k hk => hall k hk (by omega)
    refine AW.fz 0 fun Mf jf kf => ?_
    refine AW.regionD mx true [0, 1, 2, 3, 4, 5] [[], [], [], [1, 2], [0, 1, 2, 3], [0, 1, 2, 3, 4]] (by kernel_rfl) ?_
    refine D.p rfl rfl V.ld ?_
    refine D.p rfl rfl V.ld ?_
    refine D.p rfl rfl V.move ?_
    refine D.e rfl rfl (S.call ?_)
    have hcb := clF_bd (d := d) hm0 (d.length + 3) t
    refine (lim1_c d hT hd8 most hm0 hm1 b3 b5 b9 (d.length + 3) t (by omega) (fun u hu => by rw [List.any_eq_false] at hra; simpa using hra u hu) ht _ _ Ad cd inferInstance inferInstance inferInstance hd.upD).use ?_
    rintro v5 N5 G5 iz5 ⟨rfl, hG⟩
    obtain rfl := hG.symm
    refine D.p rfl rfl V.min ?_
    refine D.p rfl rfl V.assign ?_
    refine D.nl ?_
    refine AW.ret ?_
    repeat with_reducible first | refine thn_ret ?_ | refine inb_ret ?_
    refine fin (Res.i1 rfl) ?_
    have e0 : limF d t most = (if clF d most (d.length + 3) t < most then clF d most (d.length + 3) t else most) := by rw [limF, hra]; rfl
    exact ⟨_, (by repeat first | exact List.Sublist.refl _ | apply List.Sublist.cons), by rw [e0], rfl⟩
end Go.Proofs.YtieaiheejhmbfaaGreatDoor.ML
/- All values with a number of cells: the visit for every number. No conditions. -/
namespace Go.Proofs.YtieaiheejhmbfaaGreatDoor.ML
open Go.RowKit
set_option linter.unusedVariables false
set_option linter.unusedSimpArgs false
theorem lsV_congr {ex ex' : Int → Nat → List VT} : ∀ (ts : List Int) (k : Nat), (∀ t j, j ≤ k → ex t j = ex' t j) → lsV ex ts k = lsV ex' ts k
  | [], k, h => rfl
  | t :: ts, k, h => by
    rw [lsV, lsV]
    have : ∀ j ∈ List.range (k + 1), ((ex t j).flatMap fun v => (lsV ex ts (k - j)).map (v :: ·)) = ((ex' t j).flatMap fun v => (lsV ex' ts (k - j)).map (v :: ·)) := fun j hj => by
      rw [h t j (by simp at hj; omega), lsV_congr ts (k - j) fun t i hi => h t i (by omega)]
    rw [List.flatMap_def, List.flatMap_def, List.map_congr_left this]
theorem consV_congr {ls ls' : List Int → Nat → List (List VT)} {k : Nat} (h : ∀ ts, k ≠ 0 → ls ts (k - 1) = ls' ts (k - 1)) : ∀ (cs : List CT) (i : Nat), consV ls k i cs = consV ls' k i cs
  | [], i => rfl
  | c :: cs, i => by
    rw [consV, consV, consV_congr h cs]
    congr 1
    unfold conV
    split
    · rfl
    · split
      · rfl
      · rename_i hk; rw [h _ hk]
theorem exA_fuel (d : List DT) : ∀ (n m : Nat) (t : Int) (k : Nat), k < n → k < m → exA d n t k = exA d m t k
  | 0, _, _, _, h, _ => by omega
  | _, 0, _, _, _, h => by omega
  | n + 1, m + 1, t, k, h, h' => by
    rw [exA, exA]
    split
    · rfl
    · exact consV_congr (fun ts hk => lsV_congr ts _ fun t j hj => exA_fuel d n m t j (by omega) (by omega)) _ _
def exV (d : List DT) (t : Int) (k : Nat) : List VT := exA d (k + 1) t k
def BdD (d : List DT) : Prop := ∀ i (h : i < d.length), d[i].cons.length ≤ 1000 ∧ ∀ j (h' : j < d[i].cons.length), d[i].cons[j].fields.length ≤ 1000
theorem exall_c (d : List DT) (hT : TypedP d) (hB : BdD d) : ∀ n, n ≤ 1000001 → ∀ (σ : Type) (J : Bool → σ → Heap) (f : σ → VT → σ × Bool) (fy : Value) (_ : Fv fy) (t : Int) (k : Nat), k < n → (0 ≤ t ∧ t ≤ d.length) → ∀ (s : σ) (M : Mem) (Ad : Option Addr) (cd : Nat), RdS 2 (RdD M) Ad cd d → CbV Tryz.prog M fy J f →
    AC Tryz.prog 59 [.slice Ad d.length cd, .int .i64 t, .int .i64 k, fy] M (J true s) fun r _ H' => r = .bool (sf f s (exA d n t k)).2 ∧ H' = J (sf f s (exA d n t k)).2 (sf f s (exA d n t k)).1
  | 0, _, _, _, _, _, _, _, _, h, _ => by omega
  | n + 1, hn, σ, J, f, fy, hf, t, k, hk, ht => fun s M Ad cd hd hy => ex59_c d hT hB n (by omega) (exall_c d hT hB n (by omega)) σ J f fy hf t k hk ht s M Ad cd hd hy
theorem exV_c (d : List DT) (hT : TypedP d) (hB : BdD d) {σ : Type} (J : Bool → σ → Heap) (f : σ → VT → σ × Bool) (fy : Value) [Fv fy] (t : Int) (k : Nat) (hk : k ≤ 1000000) (ht : 0 ≤ t ∧ t ≤ d.length) (s : σ) (M : Mem) (Ad : Option Addr) (cd : Nat) (hd : RdS 2 (RdD M) Ad cd d) (hy : CbV Tryz.prog M fy J f) :
    AC Tryz.prog 59 [.slice Ad d.length cd, .int .i64 t, .int .i64 k, fy] M (J true s) fun r _ H' => r = .bool (sf f s (exV d t k)).2 ∧ H' = J (sf f s (exV d t k)).2 (sf f s (exV d t k)).1 :=
  exall_c d hT hB (k + 1) (by omega) σ J f fy inferInstance t k (by omega) ht s M Ad cd hd hy
noncomputable def allV (d : List DT) (t most : Int) : List VT := if tableF d t ≠ 0 ∨ most < 0 then [] else (List.range ((limF d t most).toNat + 1)).flatMap fun k => exV d t k
theorem checkF_bd {d : List DT} (h : checkF d = 0) : BdD d ∧ d.length ≤ 64 := by
  have h1 := checkF_ok h
  have h2 := many_bd h1.1
  refine ⟨fun i hi => ⟨by have := h2.2 i hi; omega, fun j hj => ?_⟩, h2.1⟩
  have h3 := h1.1
  unfold manyF at h3
  rw [Bool.or_eq_false_iff, List.any_eq_false] at h3
  have h4 := h3.2 d[i] (List.getElem_mem hi)
  simp only [many0, Bool.or_eq_true, List.any_eq_true, not_or, not_exists, not_and] at h4
  have h5 := h4.2 d[i].cons[j] (List.getElem_mem hj)
  simp at h5
  omega
theorem limF_bd (d : List DT) (t : Int) {most : Int} (hm : 0 ≤ most) : 0 ≤ limF d t most ∧ limF d t most ≤ most := by
  have := clF_bd (d := d) hm (d.length + 3) t
  unfold limF
  split
  · omega
  · split <;> omega
section
variable {P : Program} {ro : RO} {Q : Post} {tm : Tm} {M : Mem} {H : Heap}
theorem bcase (b : Bool) {p : Prop} (h1 : b = true → p) (h2 : b = false → p) : p := by cases b; exact h2 rfl; exact h1 rfl
theorem AV.heqI {fv : Value} {av : List Value} {R : Value → Mem → Heap → Prop} {H' : Heap} (e : H = H') (h : AV P fv av M H' R) : AV P fv av M H R := e ▸ h
theorem AC.heqI {f : Nat} {av : List Value} {R : Value → Mem → Heap → Prop} {H' : Heap} (e : H = H') (h : AC P f av M H' R) : AC P f av M H R := e ▸ h
theorem RQ.heq {l : Nat} {r : Loop} {v : Value} {H' : Heap} (e : H = H') (h : rangeQ P ro Q tm l r v M H') : rangeQ P ro Q tm l r v M H := e ▸ h
end
end Go.Proofs.YtieaiheejhmbfaaGreatDoor.ML
/- Walks of functions of the program, in the abstract layer. No conditions. -/
namespace Go.Proofs.YtieaiheejhmbfaaGreatDoor.ML
open Go.RowKit
set_option linter.unusedVariables false
set_option linter.unusedSimpArgs false
set_option maxHeartbeats 1600000 in
set_option synthInstance.maxHeartbeats 400000 in
set_option synthInstance.maxSize 100000 in
set_option maxRecDepth 100000 in
theorem sized_c {σ : Type} (J : Bool → σ → Heap) (f : σ → VT → σ × Bool) (fy : Value) [Fv fy] (d : List DT) (hT : TypedP d) (hB : BdD d) (t : Int) (ht : 0 ≤ t ∧ t ≤ d.length) (k : Nat) (hk : k ≤ 1000000) (s : σ) (M : Mem) (Ad : Option Addr) (cd b1 b2 b3 : Nat) (hd : RdS 2 (RdD M) Ad cd d) (q1 : Mb M b1 [.slice Ad d.length cd]) (q2 : Mb M b2 [.int .i64 t]) (q3 : Mb M b3 [.int .i64 k]) (hy : CbV Tryz.prog M fy J f) :
    AC Tryz.prog 58 [fy, .pointer (some ⟨b1, 0, none⟩), .pointer (some ⟨b2, 0, none⟩), .pointer (some ⟨b3, 0, none⟩)] M (J true s) fun r _ H' => r = .tuple #[] ∧ H' = J (sf f s (exV d t k)).2 (sf f s (exV d t k)).1 := by
  refine AC.of (n := 6) Tryz.func58 rfl rfl ?_
  dsimp only [List.replicate, List.cons_append, List.nil_append]
  refine AW.region ?_
  first | refine st V.ld ?_ | refine sq V.lo ?_
  first | refine st V.ld ?_ | refine sq V.lo ?_
  first | refine st V.ld ?_ | refine sq V.lo ?_
  refine st V.move ?_
  refine se (S.call ?_)
  refine (exV_c d hT hB J f fy t k hk ht s _ Ad cd hd hy).use ?_
  rintro v N G iz ⟨rfl, hG⟩
  subst hG
  refine sn ?_
  repeat with_reducible refine inb_normal ?_
  refine fin0 (Res.zero rfl) ?_
  exact ⟨_, (by repeat first | exact List.Sublist.refl _ | apply List.Sublist.cons), rfl, rfl⟩
set_option maxHeartbeats 1600000 in
set_option synthInstance.maxHeartbeats 400000 in
set_option synthInstance.maxSize 100000 in
set_option maxRecDepth 100000 in
theorem all_c (M : Mem) (H : Heap) (Ad : Option Addr) (cd : Nat) (n : Nat) (t most : Int) :
    AC Tryz.prog 25 [.slice Ad n cd, .int .i64 t, .int .i64 most] M H fun r M' H' => ∃ b1 b2 b3, r = .func (.func 56) #[] #[.pointer (some ⟨b1, 0, none⟩), .pointer (some ⟨b2, 0, none⟩), .pointer (some ⟨b3, 0, none⟩)] ∧ Mb M' b1 [.slice Ad n cd] ∧ Mb M' b2 [.int .i64 t] ∧ Mb M' b3 [.int .i64 most] ∧ H' = H := by
  refine AC.of (n := 5) Tryz.func25 rfl rfl ?_
  dsimp only [List.replicate, List.cons_append, List.nil_append]
  refine AW.seq ?_
  refine AW.region ?_
  refine se (S.boxM ?_); intro b3 M3 i3 j3
  refine se (S.boxM ?_); intro b4 M4 i4 j4
  refine se (S.boxM ?_); intro b5 M5 i5 j5
  refine st V.assign ?_
  refine sn ?_
  refine AW.seq ?_
  refine AW.region ?_
  refine st V.fn ?_
  refine st V.assign ?_
  refine sn ?_
  refine AW.ret ?_
  repeat with_reducible first | refine thn_ret ?_ | refine inb_ret ?_
  refine fin (Res.i1 rfl) ?_
  refine ⟨_, List.Sublist.refl _, b3, b4, b5, rfl, inferInstance, inferInstance, inferInstance, rfl⟩
set_option maxHeartbeats 1600000 in
set_option synthInstance.maxHeartbeats 400000 in
set_option synthInstance.maxSize 100000 in
set_option maxRecDepth 100000 in
theorem all1_c {σ : Type} (J : Bool → σ → Heap) (f : σ → VT → σ × Bool) (fy : Value) [Fv fy] (d : List DT) (t most : Int) (hm : most ≤ 1000000) (s : σ) (M : Mem) (Ad : Option Addr) (cd b1 b2 b3 : Nat) (hd : RdS 2 (RdD M) Ad cd d) (q1 : Mb M b1 [.slice Ad d.length cd]) (q2 : Mb M b2 [.int .i64 t]) (q3 : Mb M b3 [.int .i64 most]) (hy : CbV Tryz.prog M fy J f) :
    AC Tryz.prog 56 [fy, .pointer (some ⟨b1, 0, none⟩), .pointer (some ⟨b2, 0, none⟩), .pointer (some ⟨b3, 0, none⟩)] M (J true s) fun r _ H' => r = .tuple #[] ∧ H' = J (sf f s (allV d t most)).2 (sf f s (allV d t most)).1 := by
  refine AC.ofM (n := 29) Tryz.func56 rfl rfl ?_
  dsimp only [List.replicate, List.cons_append, List.nil_append]
  refine AW.seq ?_
  refine AW.region ?_
  refine se (S.boxM ?_); intro b4 M4 i4 j4
  refine sn ?_
  refine AW.seq ?_
  refine AW.seq ?_
  refine AW.region ?_
  first | refine st V.ld ?_ | refine sq V.lo ?_
  first | refine st V.ld ?_ | refine sq V.lo ?_
  refine se (S.call ?_)
  refine (table_c _ _ Ad cd d hd.upD t).use ?_
  rintro v1 N1 G1 iz1 ⟨rfl, hG⟩
  obtain rfl := hG.symm
  refine st V.neq ?_
  refine st V.move ?_
  refine onoff true rfl rfl (fun h1 => ?_) (fun h1 => ?_)
  ·
    have k1 := bp h1
    first | refine st V.ld ?_ | refine sq V.lo ?_
    refine on rfl h1 ?_
    refine st (V.lss) ?_
    refine st (V.pF h1) ?_
    refine sn ?_
    refine cond (fun h2 => ?_) (fun h2 => ?_)
    ·
      have k2 := bp h2
      refine AW.ret ?_
      repeat with_reducible first | refine thn_ret ?_ | refine inb_ret ?_
      refine finM (fun _ => Res.zero rfl) ?_
      have e0 : allV d t most = [] := by rw [allV, if_pos (.inr (by omega))]
      refine ⟨_, List.Sublist.refl _, fun _ => ⟨rfl, by rw [e0]; rfl⟩⟩
    ·
      have k2 := bp h2
      refine AW.skip ?_
      refine AW.seq ?_
      obtain ⟨hc0, ht⟩ := tableF_ok k1
      have hT := (checkF_ok hc0).2.2.2.1
      obtain ⟨hB, hdl⟩ := checkF_bd hc0
      have hlb := limF_bd d t (most := most) (by omega)
      have hall : allV d t most = (List.range ((limF d t most).toNat + 1)).flatMap fun k => exV d t k := by rw [allV, if_neg (by intro h; rcases h with h | h; exact h k1; omega)]
      refine AW.region ?_
      first | refine st V.ld ?_ | refine sq V.lo ?_
      first | refine st V.ld ?_ | refine sq V.lo ?_
      first | refine st V.ld ?_ | refine sq V.lo ?_
      refine se (S.call ?_)
      refine (limit_c d hT (by omega) most (by omega) hm t ht _ _ Ad cd hd.upD).use ?_
      rintro v2 N2 G2 iz2 ⟨rfl, hG⟩
      obtain rfl := hG.symm
      refine st (V.add64 (by omega)) ?_
      refine st V.move ?_
      refine sn ?_
      refine AW.block ?_
      refine AW.loopL [21] (5 :: 6 :: 22 :: 23 :: 24 :: 25 :: 32 :: []) (fun m vs M' H' => ∃ (k : Nat) (s1 : σ), vs = [.int .i64 (k : Int)] ∧ H' = J true s1 ∧ k + m = (limF d t most).toNat + 1 ∧ sf f s (allV d t most) = sf (fun s k => sf f s (exV d t k)) s1 ((List.range ((limF d t most).toNat + 1)).drop k)) ((limF d t most).toNat + 1) (⟨0, s, rfl, rfl, by omega, by rw [hall, sf_flat]; rfl⟩) ?_
      intro m Ml Hl iL u21 hI u5 u6 u22 u23 u24 u25 u32
      obtain ⟨k, s1, hv, hH, hk, hw⟩ := hI
      subst hH
      cases hv
      refine sa ?_
      refine AW.seq ?_
      refine AW.region ?_
      refine st V.lss ?_
      refine sn ?_
      refine AW.seq ?_
      refine cond (fun h3 => ?_) (fun h3 => ?_)
      ·
        have k3 := bp h3
        refine AW.skip ?_
        refine AW.seq ?_
        refine AW.block ?_
        refine AW.seq ?_
        refine AW.region ?_
        refine st V.move ?_
        refine se (S.alloc ?_); intro b5
        refine se (S.store ?_)
        refine sn ?_
        refine AW.seq ?_
        refine AW.fz 0 fun Mk ik jk => ?_
        refine AW.region ?_
        refine st V.fn ?_
        refine st V.assign ?_
        refine sn ?_
        refine AW.seq ?_
        refine AW.region ?_
        refine st V.move ?_
        refine sn ?_
        refine AW.block ?_
        refine AW.rangeF (f := 58) (fst := #[]) (cap := #[.pointer (some ⟨b1, 0, none⟩), .pointer (some ⟨b2, 0, none⟩), .pointer (some ⟨b5, 0, none⟩)]) Ev.out ?_
        intro l r Mr iR hrt hrs hrn hrp hra hrb
        have hrr : ({ r with state := .ready, pending := none } : Loop) = r := by cases r; simp only at hrs hrn; subst hrs; subst hrn; rfl
        have LM : LeT M Mr := inferInstance
        have cb : CbV Tryz.prog Mr (.func (.yield l) #[] #[]) (fun (b : Bool) s => .blk l (.loop (if b then { r with state := .ready, pending := none } else { r with state := .done, pending := some .ret })) :: J b s) f := by
          intro M2 q s2 v Av cv hvb hvv
          have L2 : LeT M M2 := LeT.tr LM q
          have j4' : Mb M2 b4 [fy] := Mb.up (h := LeT.tr (inferInstance : LeT M4 Mr) q) j4
          refine AV.heqI (H' := .blk l (.loop r) :: J true s2) (by simp [hrr]) ?_
          refine AV.yield hrt hrs (by rw [hrp]; rfl) ?_
          rw [hra, hrb, hrp]
          refine sy ?_
          refine AW.region ?_
          refine se (S.alloc ?_); intro b7
          refine se (S.storeA rfl ?_)
          refine sn ?_
          refine apost_1 ?_
          refine AW.fz 1 fun Mv iv jv => ?_
          refine AW.block ?_
          refine AW.seq ?_
          refine AW.regionD mx true [0, 1, 2, 3, 4] [[], [], [1], [0, 1, 2], [0, 1, 2, 3]] (by kernel_rfl) ?_
          refine D.p rfl rfl V.ld ?_
          refine D.p rfl rfl V.ldA ?_
          refine D.e rfl rfl (S.call ?_)
          refine (cloned_c (SizeOf.sizeOf v + 1) v (by omega) hvb _ _ Av cv (VV.up hvv)).use ?_
          rintro vc Nc Gc izc ⟨A9, c9, rfl, hvc, hG⟩
          obtain rfl := hG.symm
          refine D.e rfl rfl (S.callV ?_)
          have L3 : LeT M Nc := inferInstance
          refine (AV.frame (fun M3 q3 => hy M3 (LeT.tr L3 q3) s2 v A9 c9 hvb (VV.up (hm := q3) hvc))).use ?_
          rintro vq Nq Gq izq ⟨H2, hG1, rfl, hG2⟩
          subst hG2
          subst hG1
          refine D.p rfl rfl V.not ?_
          refine D.nl ?_
          refine cond (fun h4 => ?_) (fun h4 => ?_)
          ·
            have k4 := bp h4
            refine AW.ret ?_
            repeat with_reducible first | refine thn_ret ?_ | refine inb_ret ?_
            refine rpost_r ?_
            have hs9 : (f s2 v).2 = false := by simpa using h4
            refine ⟨by rw [hs9], ?_⟩
            simp [hs9, hra, hrb, hrp]
          ·
            have k4 := bp h4
            refine AW.skip ?_
            repeat with_reducible refine inb_normal ?_
            refine rpost_n ?_
            have hs9 : (f s2 v).2 = true := by simpa using h4
            refine ⟨by rw [hs9], ?_⟩
            simp [hs9, hra, hrb, hrp]
        refine AC.heqI (H' := (fun (b : Bool) s => .blk l (.loop (if b then { r with state := .ready, pending := none } else { r with state := .done, pending := some .ret })) :: J b s) true s1) (by simp [hrr]) ?_
        refine (sized_c (fun (b : Bool) s => .blk l (.loop (if b then { r with state := .ready, pending := none } else { r with state := .done, pending := some .ret })) :: J b s) f (.func (.yield l) #[] #[]) d hT hB t ht k (by omega) s1 Mr Ad cd b1 b2 b5 hd.upD (Mb.up (M := M) q1) (Mb.up (M := M) q2) inferInstance cb).use ?_
        rintro vz Nz Gz izz ⟨rfl, hG⟩
        subst hG
        refine bcase (sf f s1 (exV d t k)).2 (fun hp => ?_) (fun hp => ?_)
        ·
          refine RQ.heq (H' := .blk l (.loop { r with state := .ready, pending := none }) :: J true (sf f s1 (exV d t k)).1) (by simp [hp]) ?_
          refine rangeQ_n ?_
          refine AW.region ?_
          refine st (V.add64 (by omega)) ?_
          refine st V.move ?_
          refine sn ?_
          repeat with_reducible refine inb_normal ?_
          refine thn_normal ?_
          refine rnd (m - 1) _ (by omega) (List.Sublist.refl _) ⟨k + 1, _, by simp, rfl, by omega, ?_⟩
          rw [hw, range_drop _ _ (by omega), sf_cons, if_pos hp]
        ·
          refine RQ.heq (H' := .blk l (.loop { r with state := .done, pending := some .ret }) :: J false (sf f s1 (exV d t k)).1) (by simp [hp]) ?_
          refine rangeQ_c ?_
          refine AW.ret ?_
          repeat with_reducible first | refine thn_ret ?_ | refine inb_ret ?_
          refine finM (fun _ => Res.zero rfl) ?_
          have e0 : sf f s (allV d t most) = ((sf f s1 (exV d t k)).1, false) := by rw [hw, range_drop _ _ (by omega), sf_cons, if_neg (by rw [hp]; decide)]
          refine ⟨_, List.Sublist.refl _, fun _ => ⟨rfl, by rw [e0]⟩⟩
      ·
        have k3 := bp h3
        refine AW.exit ?_
        repeat with_reducible refine thn_exit ?_
        refine inb_exit ?_
        repeat with_reducible refine inb_normal ?_
        refine fin0M (fun _ => Res.zero rfl) ?_
        have e0 : sf f s (allV d t most) = (s1, true) := by rw [hw, List.drop_eq_nil_of_le (by simp; omega)]; rfl
        refine ⟨_, List.Sublist.refl _, fun _ => ⟨rfl, by rw [e0]⟩⟩
  ·
    have k1 := bp h1
    refine off rfl h1 ?_
    refine st (V.pT h1) ?_
    refine sn ?_
    refine cond (fun _ => ?_) (fun h => by cases h)
    refine AW.ret ?_
    repeat with_reducible first | refine thn_ret ?_ | refine inb_ret ?_
    refine finM (fun _ => Res.zero rfl) ?_
    have e0 : allV d t most = [] := by rw [allV, if_pos (.inl (by first | exact k1 | omega))]
    refine ⟨_, List.Sublist.refl _, fun _ => ⟨rfl, by rw [e0]; rfl⟩⟩
end Go.Proofs.YtieaiheejhmbfaaGreatDoor.ML
