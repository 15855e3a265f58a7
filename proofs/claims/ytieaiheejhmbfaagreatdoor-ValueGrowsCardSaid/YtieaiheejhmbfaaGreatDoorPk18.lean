/- Walks of functions of the program, in the abstract layer. No conditions. -/
import Derived.Test.YtieaiheejhmbfaaGreatDoorPk17
namespace Go.Proofs.YtieaiheejhmbfaaGreatDoor.ML
open Go.RowKit
set_option linter.unusedVariables false
set_option linter.unusedSimpArgs false
set_option maxHeartbeats 1600000 in
set_option synthInstance.maxHeartbeats 400000 in
set_option synthInstance.maxSize 100000 in
set_option maxRecDepth 100000 in
theorem term_c (s : ByteArray) (hs : s.size ≤ 1000000) (b : Nat) (fv : Value) : ∀ (z n : Nat), n < z → ∀ (a : Nat), a ≤ s.size → s.size - a < n → ∀ (M : Mem) (H : Heap), GM M →
    AC Tryz.prog 48 [.pointer (some ⟨b, 0, none⟩)] M (.blk b (.cells #[.string s, .int .i64 (a : Nat), fv] 95 (0, 0)) :: H) fun r M' H' => TmR r M' (termF s n a).1 ∧ H' = .blk b (.cells #[.string s, .int .i64 ((termF s n a).2 : Nat), fv] 95 (0, 0)) :: H
  | 0, n, hz => by omega
  | z + 1, 0, hz => by intro a ha hn; omega
  | z + 1, n + 1, hz => by
    intro a ha hn M H hGM
    have hsp := skO_le spP s a ha
    have hwe := wE_le s _ hsp.2
    refine AC.of (n := 85) Tryz.func48 rfl rfl ?_
    dsimp only [List.replicate, List.cons_append, List.nil_append]
    refine AW.seq ?_
    refine AW.region ?_
    refine se (S.alloc ?_); intro b2
    refine st V.assign ?_
    refine sn ?_
    refine AW.seq ?_
    refine AW.front 1 ?_
    refine AW.region ?_
    refine st V.move ?_
    refine se (S.call ?_)
    refine (spaces_c _ _ b s hs fv (a) (by omega)).use ?_
    rintro v1 N1 G1 iz1 ⟨rfl, hG⟩
    subst hG
    refine sn ?_
    refine AW.seq ?_
    refine AW.region ?_
    refine st V.move ?_
    refine se (S.call ?_)
    refine (word_c _ _ hGM.up b s hs fv (skO spP s a) (by omega)).use ?_
    rintro v2 N2 G2 iz2 ⟨⟨nm2, nu2, ok2, rfl, ho2, hw2⟩, hG⟩
    subst hG
    refine st V.move ?_
    refine st V.ext ?_
    refine st V.ext ?_
    refine se (S.alloc ?_); intro b4
    refine se (S.storeA rfl ?_)
    refine st V.assign ?_
    refine sn ?_
    refine AW.seq ?_
    refine AW.seq ?_
    refine AW.region ?_
    refine st V.move ?_
    refine st V.not ?_
    refine sn ?_
    refine cond (fun h1 => ?_) (fun h1 => ?_)
    ·
      have k1 := bp h1
      refine AW.seq ?_
      refine AW.region ?_
      refine st (V.build (cells := [.string ⟨#[]⟩, .int .i64 0, .slice none 0 0]) rfl) ?_
      refine se (S.storeA rfl ?_)
      refine st V.assign ?_
      refine sn ?_
      refine AW.ret ?_
      repeat with_reducible first | refine thn_ret ?_ | refine inb_ret ?_
      refine fin (Res.ic2 rfl) ?_
      have e9 := tm_0 (m := n) (a := a) (s := s) (by rw [← ho2]; simpa using h1)
      rw [e9]
      refine ⟨_, (List.Sublist.cons _ (List.Sublist.cons_cons _ (by repeat first | exact List.Sublist.refl _ | apply List.Sublist.cons))), TmR.none rfl, rfl⟩
    ·
      have k1 := bp h1
      refine AW.skip ?_
      refine AW.block ?_
      obtain ⟨t0, hq⟩ : ∃ t, wordF s (skO spP s a) = some t := Option.isSome_iff_exists.1 (by rw [← ho2]; simpa using h1)
      obtain rfl := hw2 t0 hq
      refine AW.front 1 ?_
      refine AW.row0 98 3 ?_
      refine AW.front 1 ?_
      refine AW.loopL [] (3 :: 6 :: 7 :: 8 :: 9 :: 10 :: 21 :: 22 :: 23 :: 24 :: 25 :: 26 :: 27 :: 28 :: 29 :: 30 :: 31 :: 32 :: 33 :: 34 :: 35 :: 36 :: 37 :: 38 :: 39 :: 40 :: 41 :: 42 :: 43 :: 44 :: 45 :: 46 :: 47 :: 48 :: 49 :: 50 :: 51 :: 52 :: 53 :: 54 :: 55 :: 56 :: 57 :: 58 :: 59 :: 60 :: 61 :: 62 :: 63 :: 64 :: 65 :: 66 :: 67 :: 68 :: 69 :: 70 :: 71 :: 72 :: 73 :: 74 :: 75 :: 76 :: 77 :: 78 :: 79 :: 80 :: 81 :: 82 :: 83 :: 84 :: 85 :: []) (fun m vs M' H' => ∃ (nm : ByteArray) (nu : Int) (l : List TT) (a1 : Nat) (A : Option Addr) (c : Nat) (cs : List Value), vs = [] ∧ H' = .blk b (.cells #[.string s, .int .i64 (a1 : Nat), fv] 95 (0, 0)) :: .row A l.length c 98 3 cs :: .blk b4 (.cells #[.string nm, .int .i64 nu, .slice A l.length c] 98 (0, 0)) :: .blk b2 (.cells #[.string ⟨#[]⟩, .int .i64 0, .slice none 0 0] 98 (0, 0)) :: H ∧ FlT M' cs l ∧ a1 ≤ s.size ∧ s.size - a1 < m ∧ m ≤ n ∧ l.length ≤ a1 ∧ termF s (n + 1) a = loopF s m nm nu l a1) (n) (⟨nm2, nu2, [], wE s (skO spP s a), none, 0, [], rfl, rfl, rfl, hwe.2, by have := (wordF_some hsp.2 hq).1; omega, Nat.le_refl _, by simp, by rw [tm_1 hq]; rfl⟩) ?_
      intro m Ml Hl iL  hI u3 u6 u7 u8 u9 u10 u21 u22 u23 u24 u25 u26 u27 u28 u29 u30 u31 u32 u33 u34 u35 u36 u37 u38 u39 u40 u41 u42 u43 u44 u45 u46 u47 u48 u49 u50 u51 u52 u53 u54 u55 u56 u57 u58 u59 u60 u61 u62 u63 u64 u65 u66 u67 u68 u69 u70 u71 u72 u73 u74 u75 u76 u77 u78 u79 u80 u81 u82 u83 u84 u85
      obtain ⟨nm, nu, l, a1, A, c, cs, hv, hH, hf, ha1, hm, hmn, hla, hw⟩ := hI
      subst hH
      obtain ⟨m, rfl⟩ : ∃ m', m = m' + 1 := ⟨m - 1, by omega⟩
      have hsp1 := skO_le spP s a1 ha1
      have hwe1 := wE_le s _ hsp1.2
      refine sa ?_
      refine AW.block ?_
      refine AW.seq ?_
      refine AW.region ?_
      refine st V.move ?_
      refine se (S.call ?_)
      refine (spaces_c _ _ b s hs fv (a1) (by omega)).use ?_
      rintro v5 N5 G5 iz5 ⟨rfl, hG⟩
      subst hG
      refine st V.assign ?_
      refine sn ?_
      refine AW.block ?_
      refine AW.seq ?_
      refine AW.region ?_
      refine st V.move ?_
      refine st V.eql ?_
      refine st V.move ?_
      refine onoff true rfl rfl (fun h2 => ?_) (fun h2 => ?_)
      ·
        have k2 := bp h2
        refine st V.move ?_
        refine on rfl h2 ?_
        refine st V.eql ?_
        refine st (V.pF h2) ?_
        refine st V.assign ?_
        refine sn ?_
        refine cond (fun h3 => ?_) (fun h3 => ?_)
        ·
          have k3 := bp h3
          refine AW.seq ?_
          refine AW.kp 1 fun Mk ik hk => ?_
          refine AW.region ?_
          first | refine st V.ldA ?_ | refine sq V.loA ?_
          refine se (S.storeA rfl ?_)
          refine st V.assign ?_
          refine sn ?_
          refine AW.ret ?_
          repeat with_reducible first | refine thn_ret ?_ | refine inb_ret ?_
          refine fin (Res.ic2 rfl) ?_
          obtain ⟨hkl, hr⟩ := hk.terms hf.up (by omega)
          rw [hw, lp_done (by omega)]
          refine ⟨_, (List.Sublist.cons_cons _ (by repeat first | exact List.Sublist.refl _ | apply List.Sublist.cons)), TmR.some rfl rfl hr, rfl⟩
        ·
          have k3 := bp h3
          refine AW.seq ?_
          refine AW.region ?_
          refine st V.fa0 ?_
          first | refine st V.ld ?_ | refine sq V.lo ?_
          refine st V.eqs ?_
          refine st V.assign ?_
          refine sn ?_
          refine cond (fun h4 => ?_) (fun h4 => ?_)
          ·
            have k4 := bp h4
            refine AW.seq ?_
            refine AW.region ?_
            refine st (V.build (cells := [.string ⟨#[]⟩, .int .i64 0, .slice none 0 0]) rfl) ?_
            refine se (S.storeA rfl ?_)
            refine st V.assign ?_
            refine sn ?_
            refine AW.ret ?_
            repeat with_reducible first | refine thn_ret ?_ | refine inb_ret ?_
            refine fin (Res.ic2 rfl) ?_
            rw [hw, lp_num (by omega) k4]
            refine ⟨_, (List.Sublist.cons_cons _ (by repeat first | exact List.Sublist.refl _ | apply List.Sublist.cons)), TmR.none rfl, rfl⟩
          ·
            have k4 := bp h4
            refine AW.seq ?_
            refine AW.region ?_
            refine st V.move ?_
            refine st V.eql ?_
            refine st V.assign ?_
            refine sn ?_
            refine cond (fun h5 => ?_) (fun h5 => ?_)
            ·
              have k5 := bp h5
              refine AW.seq ?_
              refine AW.region ?_
              refine st V.move ?_
              refine st (by first | exact V.nc | exact V.ncF) ?_
              refine st V.faz ?_
              first | refine st V.ld ?_ | refine sq V.lo ?_
              refine st (V.add64 (by omega)) ?_
              refine st (by first | exact V.nc | exact V.ncF) ?_
              refine st V.faz ?_
              refine se (S.store ?_)
              refine sn ?_
              refine AW.seq ?_
              have hlt := nx_lt (s := s) (a := skO spP s a1) (by rw [k5]; decide)
              have ec1 : ((skO spP s a1 : Nat) : Int) + 1 = ((skO spP s a1 + 1 : Nat) : Int) := by omega
              rw [ec1]
              refine AW.region ?_
              refine st V.move ?_
              refine se (S.call ?_)
              refine (term_c s hs b fv z m (by omega) (skO spP s a1 + 1) (by omega) (by omega) _ _ hGM.up).use ?_
              rintro v16 N16 G16 iz16 ⟨⟨nm7, nu7, A7, n7, c7, ok7, rfl, ho7, hw7⟩, hG⟩
              subst hG
              have htl := (term_le s m).1 (skO spP s a1 + 1) (by omega)
              have htl2 := skO_le spP s _ htl.2
              refine st V.move ?_
              refine st V.ext ?_
              refine st V.ext ?_
              refine se (S.alloc ?_); intro b7
              refine se (S.storeA rfl ?_)
              refine st V.assign ?_
              refine sn ?_
              refine AW.seq ?_
              refine AW.seq ?_
              refine AW.fz 0 fun M7 i7 j7 => ?_
              refine AW.region ?_
              refine st V.move ?_
              refine st V.not ?_
              refine st V.move ?_
              refine onoff true rfl rfl (fun h6 => ?_) (fun h6 => ?_)
              ·
                have k6 := bp h6
                refine st V.move ?_
                refine on rfl h6 ?_
                refine se (S.call ?_)
                refine (spaces_c _ _ b s hs fv ((termF s m (skO spP s a1 + 1)).2) (by omega)).use ?_
                rintro v17 N17 G17 iz17 ⟨rfl, hG⟩
                subst hG
                refine on rfl h6 ?_
                refine st V.neq ?_
                refine st (V.pF h6) ?_
                refine sn ?_
                refine cond (fun h7 => ?_) (fun h7 => ?_)
                ·
                  have k7 := bp h7
                  refine AW.seq ?_
                  refine AW.region ?_
                  refine st (V.build (cells := [.string ⟨#[]⟩, .int .i64 0, .slice none 0 0]) rfl) ?_
                  refine se (S.storeA rfl ?_)
                  refine st V.assign ?_
                  refine sn ?_
                  refine AW.ret ?_
                  repeat with_reducible first | refine thn_ret ?_ | refine inb_ret ?_
                  refine fin (Res.ic2 rfl) ?_
                  obtain ⟨t1, hq1⟩ : ∃ t, (termF s m (skO spP s a1 + 1)).1 = some t := Option.isSome_iff_exists.1 (by rw [← ho7]; simpa using h6)
                  rw [hw, lp_t1 (by omega) k4 k5 hq1 k7]
                  refine ⟨_, (List.Sublist.cons_cons _ (by repeat first | exact List.Sublist.refl _ | apply List.Sublist.cons)), TmR.none rfl, rfl⟩
                ·
                  have k7 := bp h7
                  refine AW.skip ?_
                  refine AW.seq ?_
                  refine AW.region ?_
                  refine st V.move ?_
                  refine st (by first | exact V.nc | exact V.ncF) ?_
                  refine st V.faz ?_
                  first | refine st V.ld ?_ | refine sq V.lo ?_
                  refine st (V.add64 (by omega)) ?_
                  refine st (by first | exact V.nc | exact V.ncF) ?_
                  refine st V.faz ?_
                  refine se (S.store ?_)
                  refine sn ?_
                  refine AW.region ?_
                  refine st V.faz ?_
                  first | refine st V.ld ?_ | refine sq V.lo ?_
                  first | refine st V.ldA ?_ | refine sq V.loA ?_
                  refine se (S.lit1 (by rfl) (by decide) ?_); intro g83
                  refine se (S.ap1 (by rfl) (by omega) (by omega) ?_)
                  intro A3 c3
                  refine st V.faz ?_
                  refine se (S.store ?_)
                  refine sn ?_
                  repeat with_reducible refine inb_normal ?_
                  refine thn_normal ?_
                  obtain ⟨t1, hq1⟩ : ∃ t, (termF s m (skO spP s a1 + 1)).1 = some t := Option.isSome_iff_exists.1 (by rw [← ho7]; simpa using h6)
                  obtain ⟨rfl, rfl, rfl, hvt⟩ := hw7 t1 hq1
                  have hlt2 := nx_lt (s := s) (a := skO spP s (termF s m (skO spP s a1 + 1)).2) (by rw [k7]; decide)
                  refine rnd m _ (by omega) (List.Sublist.refl _) ⟨nm, nu, l ++ [t1], skO spP s (termF s m (skO spP s a1 + 1)).2 + 1, A3, c3, _, rfl, by simp, (hf.up (M' := N17)).app (FlT.one (VVT.up hvt)), by omega, by omega, by omega, by simp; omega, ?_⟩
                  rw [hw, lp_t2 (by omega) k4 k5 hq1 k7]
              ·
                have k6 := bp h6
                refine off rfl h6 ?_
                refine off rfl h6 ?_
                refine st (V.pT h6) ?_
                refine sn ?_
                refine cond (fun _ => ?_) (fun h => by cases h)
                refine AW.seq ?_
                refine AW.region ?_
                refine st (V.build (cells := [.string ⟨#[]⟩, .int .i64 0, .slice none 0 0]) rfl) ?_
                refine se (S.storeA rfl ?_)
                refine st V.assign ?_
                refine sn ?_
                refine AW.ret ?_
                repeat with_reducible first | refine thn_ret ?_ | refine inb_ret ?_
                refine fin (Res.ic2 rfl) ?_
                rw [hw, lp_t0 (by omega) k4 k5 (by rw [← ho7]; simpa using h6)]
                refine ⟨_, (List.Sublist.cons_cons _ (by repeat first | exact List.Sublist.refl _ | apply List.Sublist.cons)), TmR.none rfl, rfl⟩
            ·
              have k5 := bp h5
              refine AW.seq ?_
              refine AW.region ?_
              refine st V.move ?_
              refine se (S.call ?_)
              refine (word_c _ _ hGM.up b s hs fv (skO spP s a1) (by omega)).use ?_
              rintro v6 N6 G6 iz6 ⟨⟨nm6, nu6, ok6, rfl, ho6, hw6⟩, hG⟩
              subst hG
              refine st V.move ?_
              refine st V.ext ?_
              refine st V.ext ?_
              refine se (S.alloc ?_); intro b9
              refine se (S.storeA rfl ?_)
              refine st V.assign ?_
              refine sn ?_
              refine AW.seq ?_
              refine AW.seq ?_
              refine AW.fz 0 fun M9 i9 j9 => ?_
              refine AW.region ?_
              refine st V.move ?_
              refine st V.not ?_
              refine sn ?_
              refine cond (fun h9 => ?_) (fun h9 => ?_)
              ·
                have k9 := bp h9
                refine AW.seq ?_
                refine AW.region ?_
                refine st (V.build (cells := [.string ⟨#[]⟩, .int .i64 0, .slice none 0 0]) rfl) ?_
                refine se (S.storeA rfl ?_)
                refine st V.assign ?_
                refine sn ?_
                refine AW.ret ?_
                repeat with_reducible first | refine thn_ret ?_ | refine inb_ret ?_
                refine fin (Res.ic2 rfl) ?_
                rw [hw, lp_w0 (by omega) k4 k5 (by rw [← ho6]; simpa using h9)]
                refine ⟨_, (List.Sublist.cons_cons _ (by repeat first | exact List.Sublist.refl _ | apply List.Sublist.cons)), TmR.none rfl, rfl⟩
              ·
                have k9 := bp h9
                refine AW.skip ?_
                refine AW.region ?_
                refine st V.faz ?_
                first | refine st V.ld ?_ | refine sq V.lo ?_
                first | refine st V.ldA ?_ | refine sq V.loA ?_
                refine se (S.lit1 (by rfl) (by decide) ?_); intro g34
                refine se (S.ap1 (by rfl) (by omega) (by omega) ?_)
                intro A3 c3
                refine st V.faz ?_
                refine se (S.store ?_)
                refine sn ?_
                repeat with_reducible refine inb_normal ?_
                refine thn_normal ?_
                obtain ⟨t6, hq6⟩ : ∃ t, wordF s (skO spP s a1) = some t := Option.isSome_iff_exists.1 (by rw [← ho6]; simpa using h9)
                obtain rfl := hw6 t6 hq6
                have hlt6 := (wordF_some hsp1.2 hq6).1
                refine rnd m _ (by omega) (List.Sublist.refl _) ⟨nm, nu, l ++ [⟨nm6, nu6, []⟩], wE s (skO spP s a1), A3, c3, _, rfl, by simp, (hf.up (M' := M9)).app FlT.leaf, by omega, by omega, by omega, by simp; omega, ?_⟩
                rw [hw, lp_w1 (by omega) k4 k5 hq6]
      ·
        have k2 := bp h2
        refine off rfl h2 ?_
        refine st (V.pT h2) ?_
        refine st V.assign ?_
        refine sn ?_
        refine cond (fun _ => ?_) (fun h => by cases h)
        refine AW.seq ?_
        refine AW.kp 1 fun Mk ik hk => ?_
        refine AW.region ?_
        first | refine st V.ldA ?_ | refine sq V.loA ?_
        refine se (S.storeA rfl ?_)
        refine st V.assign ?_
        refine sn ?_
        refine AW.ret ?_
        repeat with_reducible first | refine thn_ret ?_ | refine inb_ret ?_
        refine fin (Res.ic2 rfl) ?_
        obtain ⟨hkl, hr⟩ := hk.terms hf.up (by omega)
        rw [hw, lp_done (by omega)]
        refine ⟨_, (List.Sublist.cons_cons _ (by repeat first | exact List.Sublist.refl _ | apply List.Sublist.cons)), TmR.some rfl rfl hr, rfl⟩
end Go.Proofs.YtieaiheejhmbfaaGreatDoor.ML
/- The plain laws of building values from terms. No conditions. -/
namespace Go.Proofs.YtieaiheejhmbfaaGreatDoor.ML
open Go.RowKit
set_option linter.unusedVariables false
set_option linter.unusedSimpArgs false
theorem conF_ok (s : ByteArray) : ∀ (d : List DT) (t0 : Int), (conF s d t0).2.2 = true → ∃ p : Nat, ∃ hp : p < d.length, (conF s d t0).1 = t0 + p ∧ ∃ k : Nat, k < d[p].cons.length ∧ (conF s d t0).2.1 = k
  | [], t0, h => by rw [conF] at h; cases h
  | x :: l, t0, h => by
    rw [conF] at h ⊢
    split at h
    · rename_i h0
      rw [if_pos h0]
      refine ⟨0, by simp, by simp, (idxP (fun c : CT => decide (c.name = s)) x.cons).toNat, ?_, by simp only []; omega⟩
      have := idxP_ge (fun c : CT => decide (c.name = s)) x.cons
      simp only [List.getElem_cons_zero]
      omega
    · rename_i h0
      rw [if_neg h0]
      obtain ⟨p, hp, h1, k, hk, h2⟩ := conF_ok s l (t0 + 1) h
      exact ⟨p + 1, by simpa using hp, by rw [h1]; push_cast; omega, k, by simpa using hk, h2⟩
theorem conF_fit {s : ByteArray} {d : List DT} (h : (conF s d 1).2.2 = true) : ∃ (p k : Nat) (hp : p < d.length) (hk : k < d[p].cons.length), (conF s d 1).1 = (p : Int) + 1 ∧ (conF s d 1).2.1 = k ∧ fldC d ((p : Int) + 1) k = d[p].cons[k].fields := by
  obtain ⟨p, hp, h1, k, hk, h2⟩ := conF_ok s d 1 h
  refine ⟨p, k, hp, hk, by omega, h2, ?_⟩
  rw [fldC, consF_at d p hp]
  simp [List.getD, hk]
section
variable (d : List DT)
theorem bd_0 (x : TT) : bdV d 0 x = if x.name = ⟨#[]⟩ then some ⟨x.num, 0, []⟩ else none := by cases x; rw [bdV, if_pos rfl]; rfl
theorem bd_no {t : Int} (x : TT) (ht : t ≠ 0) (h : x.name = ⟨#[]⟩ ∨ (conF x.name d 1).2.2 = false ∨ (conF x.name d 1).1 ≠ t ∨ (fldC d t (conF x.name d 1).2.1).length ≠ x.args.length) : bdV d t x = none := by
  cases x with
  | mk nm nu l => rw [bdV, if_neg ht]; exact if_pos h
theorem bd_yes {t : Int} (x : TT) (ht : t ≠ 0) (h : ¬ (x.name = ⟨#[]⟩ ∨ (conF x.name d 1).2.2 = false ∨ (conF x.name d 1).1 ≠ t ∨ (fldC d t (conF x.name d 1).2.1).length ≠ x.args.length)) : bdV d t x = (bdL d (fldC d t (conF x.name d 1).2.1) x.args).map fun vs => ⟨0, (conF x.name d 1).2.1, vs⟩ := by
  cases x with
  | mk nm nu l => rw [bdV, if_neg ht]; exact if_neg h
theorem bdL_at (ts : List Int) (l : List TT) (i : Nat) (h : i < l.length) (h' : i < ts.length) : bdL d (ts.drop i) (l.drop i) = match bdV d ts[i] l[i] with
    | none => none
    | some v => (bdL d (ts.drop (i + 1)) (l.drop (i + 1))).map (v :: ·) := by
  rw [List.drop_eq_getElem_cons h, List.drop_eq_getElem_cons h', bdL]; rfl
end
def VtR (r : Value) (M : Mem) (o : Option VT) : Prop := ∃ n k A l c ok, r = .tuple #[.agg #[.int .i64 n, .int .i64 k, .slice A l c], .bool ok] ∧ ok = o.isSome ∧ ∀ v, o = some v → v.num = n ∧ v.con = k ∧ v.args.length = l ∧ VV M A c v
theorem VtR.none {n k : Int} {A : Option Addr} {l c : Nat} {M : Mem} {o : Option VT} (h : o = Option.none) : VtR (.tuple #[.agg #[.int .i64 n, .int .i64 k, .slice A l c], .bool false]) M o := ⟨_, _, _, _, _, _, rfl, by rw [h]; rfl, fun t e => by rw [h] at e; cases e⟩
theorem VtR.some {n k : Int} {A : Option Addr} {l c : Nat} {M : Mem} {o : Option VT} {vs : List VT} (h : o = Option.some ⟨n, k, vs⟩) (hk : l = vs.length) (hl : RdS 3 (RdV M) A c vs) : VtR (.tuple #[.agg #[.int .i64 n, .int .i64 k, .slice A l c], .bool true]) M o := ⟨_, _, _, _, _, _, rfl, by rw [h]; rfl, fun t e => by rw [h] at e; cases e; exact ⟨rfl, rfl, hk.symm, hl⟩⟩
theorem bdL_step {d : List DT} {ts : List Int} {l : List TT} {i : Nat} (h : i < l.length) (h' : i < ts.length) {v : VT} (hv : bdV d ts[i] l[i] = Option.some v) {acc : List VT} (hw : bdL d ts l = (bdL d (ts.drop i) (l.drop i)).map (acc ++ ·)) : bdL d ts l = (bdL d (ts.drop (i + 1)) (l.drop (i + 1))).map ((acc ++ [v]) ++ ·) := by
  rw [hw, bdL_at d ts l i h h', hv]
  simp only [Option.map_map]
  congr 1
  funext x
  simp
theorem bdL_fail {d : List DT} {ts : List Int} {l : List TT} {i : Nat} (h : i < l.length) (h' : i < ts.length) (hv : bdV d ts[i] l[i] = Option.none) {acc : List VT} (hw : bdL d ts l = (bdL d (ts.drop i) (l.drop i)).map (acc ++ ·)) : bdL d ts l = Option.none := by
  rw [hw, bdL_at d ts l i h h', hv]; rfl
theorem bdL_end {d : List DT} {ts : List Int} {l : List TT} {acc : List VT} {i : Nat} (h : l.length ≤ i) (hw : bdL d ts l = (bdL d (ts.drop i) (l.drop i)).map (acc ++ ·)) : bdL d ts l = Option.some acc := by
  rw [hw, List.drop_eq_nil_of_le h, bdL]; simp
end Go.Proofs.YtieaiheejhmbfaaGreatDoor.ML
/- Walks of functions of the program, in the abstract layer. No conditions. -/
namespace Go.Proofs.YtieaiheejhmbfaaGreatDoor.ML
open Go.RowKit
set_option linter.unusedVariables false
set_option linter.unusedSimpArgs false
set_option maxHeartbeats 1600000 in
set_option synthInstance.maxHeartbeats 400000 in
set_option synthInstance.maxSize 100000 in
set_option maxRecDepth 100000 in
theorem known_c (d : List DT) (b bz : Nat) (s : ByteArray) (at' : Int) : ∀ (z : Nat) (x : TT), SizeOf.sizeOf x < z → ∀ (M : Mem) (H : Heap) (Ad : Option Addr) (cd : Nat) (A : Option Addr) (c : Nat), RdS 2 (RdD M) Ad cd d → Mb M b [.string s, .int .i64 at', .func (.func 46) #[] #[.pointer (some ⟨bz, 0, none⟩)]] → Mb M bz [.slice Ad d.length cd] → VVT M A c x →
    AC Tryz.prog 49 [.pointer (some ⟨b, 0, none⟩), .agg #[.string x.name, .int .i64 x.num, .slice A x.args.length c]] M H fun r _ H' => r = .bool (knV d x) ∧ H' = H
  | 0, _, hz => by omega
  | z + 1, x, hz => by
    intro M H Ad cd A c hd q1 q3 hx
    have hba : x.args.length ≤ 140737488355328 := RdS.bd hx
    refine AC.of (n := 36) Tryz.func49 rfl rfl ?_
    dsimp only [List.replicate, List.cons_append, List.nil_append]
    refine AW.seq ?_
    refine AW.region ?_
    refine se (S.boxM ?_); intro b3 M3 i3 j3
    refine st V.assign ?_
    refine sn ?_
    refine AW.cutL [] (4 :: 5 :: 6 :: 7 :: 10 :: 11 :: 12 :: 13 :: 14 :: 15 :: 16 :: 17 :: 18 :: 19 :: 20 :: 21 :: 22 :: 23 :: 24 :: 25 :: []) (fun vs M' H' => vs = [] ∧ H' = H ∧ (decide (x.name = ⟨#[]⟩) || (conF x.name d 1).2.2) = true) ?_ ?_
    ·
      refine AW.seq ?_
      refine AW.region ?_
      refine st V.fa0 ?_
      first | refine st V.ld ?_ | refine sq V.lo ?_
      refine st V.nes ?_
      refine sn ?_
      refine cond (fun h1 => ?_) (fun h1 => ?_)
      ·
        have k1 := bp h1
        refine AW.seq ?_
        refine AW.regionD mx true [0, 1, 2, 3, 4, 5, 6, 7, 8, 9, 10, 11, 12, 13] [[], [0], [0, 1], [0, 1, 2], [], [4], [0, 1, 2, 3, 4, 5], [0, 1, 2, 3, 4, 5, 6], [0, 1, 2, 3, 4, 5, 6, 7], [0, 1, 2, 3, 4, 5, 6, 7], [0, 1, 2, 3, 4, 5, 6, 7], [0, 1, 2, 3, 4, 5, 6, 7, 8], [0, 1, 2, 3, 4, 5, 6, 7, 8, 9, 11], [0, 1, 2, 3, 4, 5, 6, 7, 8, 9, 10, 11, 12]] (by kernel_rfl) ?_
        refine D.p rfl rfl V.move ?_
        refine D.p rfl rfl (by first | exact V.nc | exact V.ncF) ?_
        refine D.p rfl rfl V.faz ?_
        refine D.p rfl rfl V.ld ?_
        refine D.p rfl rfl V.fa0 ?_
        refine D.p rfl rfl V.ld ?_
        refine D.e rfl rfl (S.call ?_)
        refine (look_c _ _ Ad cd d hd.upD bz (Mb.up (M := M) q3) x.name).use ?_
        rintro v N G iz ⟨rfl, hG⟩
        obtain rfl := hG.symm
        refine D.p rfl rfl V.move ?_
        refine D.p rfl rfl V.ext ?_
        refine D.p rfl rfl V.ext ?_
        refine D.p rfl rfl V.ext ?_
        refine D.p rfl rfl V.assign ?_
        refine D.p rfl rfl V.assign ?_
        refine D.p rfl rfl V.assign ?_
        refine D.nl ?_
        refine AW.seq ?_
        refine AW.region ?_
        refine st V.move ?_
        refine st V.not ?_
        refine sn ?_
        refine cond (fun h2 => ?_) (fun h2 => ?_)
        ·
          have k2 := bp h2
          refine AW.seq ?_
          refine AW.region ?_
          refine st V.assign ?_
          refine sn ?_
          refine AW.ret ?_
          repeat with_reducible first | refine thn_ret ?_ | refine inb_ret ?_
          refine fin (Res.i1 rfl) ?_
          have e9 : knV d x = false := by rw [knV_eq, decide_eq_false k1, show (conF x.name d 1).2.2 = false by simpa using h2]; rfl
          exact ⟨_, (by repeat first | exact List.Sublist.refl _ | apply List.Sublist.cons), by rw [e9], rfl⟩
        ·
          have k2 := bp h2
          refine AW.skip ?_
          repeat with_reducible refine inb_normal ?_
          refine thn_normal ?_
          exact met _ (List.Sublist.refl _) ⟨rfl, rfl, by first | (rw [show (conF x.name d 1).2.2 = true by simpa using h2, Bool.or_true]) | (rw [decide_eq_true (by assumption)]; rfl)⟩
      ·
        have k1 := bp h1
        refine AW.skip ?_
        repeat with_reducible refine inb_normal ?_
        refine thn_normal ?_
        exact met _ (List.Sublist.refl _) ⟨rfl, rfl, by first | (rw [show (conF x.name d 1).2.2 = true by simpa using h2, Bool.or_true]) | (rw [decide_eq_true (by assumption)]; rfl)⟩
    ·
      intro Mc5 Hc5 iC5  hJ u4 u5 u6 u7 u10 u11 u12 u13 u14 u15 u16 u17 u18 u19 u20 u21 u22 u23 u24 u25
      obtain ⟨hv, hH, hnx⟩ := hJ
      obtain rfl := hH.symm
      refine sa ?_
      refine AW.seq ?_
      refine AW.seq ?_
      refine AW.region ?_
      refine st V.faz ?_
      first | refine st V.ld ?_ | refine sq V.lo ?_
      refine st V.len ?_
      refine st V.move ?_
      refine sn ?_
      refine AW.block ?_
      refine AW.loopL [29] (4 :: 9 :: 30 :: 31 :: 32 :: 33 :: 34 :: 35 :: 36 :: 37 :: []) (fun m vs M' H' => ∃ i : Nat, vs = [.int .i64 (i : Int)] ∧ H' = H ∧ i + m = x.args.length ∧ ∀ k (h : k < x.args.length), k < i → knV d x.args[k] = true) (x.args.length) (⟨0, rfl, rfl, by omega, fun k _ h => by omega⟩) ?_
      intro m Ml Hl iL u29 hI u4 u9 u30 u31 u32 u33 u34 u35 u36 u37
      obtain ⟨i, hv, hH, hi, hall⟩ := hI
      obtain rfl := hH.symm
      cases hv
      refine sa ?_
      refine AW.seq ?_
      refine AW.region ?_
      refine st V.lss ?_
      refine sn ?_
      refine AW.seq ?_
      refine cond (fun h3 => ?_) (fun h3 => ?_)
      ·
        have k3 := bp h3
        refine AW.skip ?_
        refine AW.seq ?_
        refine AW.block ?_
        refine AW.seq ?_
        have z6 : i < x.args.length := by omega
        obtain ⟨ba, oa, hAa, ea⟩ := (VVT.up (M' := Ml) hx).at i z6
        obtain ⟨Ax, cx, x0, x1, x2, xs⟩ := ea.get
        refine AW.region ?_
        refine st (V.ib i rfl z6 hAa) ?_
        first | refine st V.ldA ?_ | refine sq V.loA ?_
        refine se (S.alloc ?_); intro b9
        refine se (S.storeA rfl ?_)
        refine sn ?_
        refine AW.seq ?_
        refine AW.fz 0 fun Mv iv jv => ?_
        refine AW.region ?_
        refine st V.move ?_
        first | refine st V.ldA ?_ | refine sq V.loA ?_
        refine se (S.call ?_)
        refine (known_c d b bz s at' z x.args[i] (by have := List.sizeOf_lt_of_mem (List.getElem_mem z6); cases x; simp [TT.args] at *; omega) _ _ Ad cd Ax cx hd.upD (Mb.up (M := M) q1) (Mb.up (M := M) q3) (VVT.up (x := x.args[i]) xs)).use ?_
        rintro v8 N8 G8 iz8 ⟨rfl, hG⟩
        obtain rfl := hG.symm
        refine st V.not ?_
        refine sn ?_
        refine cond (fun h4 => ?_) (fun h4 => ?_)
        ·
          have k4 := bp h4
          refine AW.seq ?_
          refine AW.region ?_
          refine st V.assign ?_
          refine sn ?_
          refine AW.ret ?_
          repeat with_reducible first | refine thn_ret ?_ | refine inb_ret ?_
          refine fin (Res.i1 rfl) ?_
          have e9 : knV d x = false := by
            rw [knV_eq]
            cases hq : knL d x.args with
            | false => rw [Bool.and_false]
            | true => exact absurd ((knL_iff d _).1 hq i z6) (by simpa using h4)
          exact ⟨_, (by repeat first | exact List.Sublist.refl _ | apply List.Sublist.cons), by rw [e9], rfl⟩
        ·
          have k4 := bp h4
          refine AW.skip ?_
          refine AW.region ?_
          refine st (V.add64 (by omega)) ?_
          refine st V.move ?_
          refine sn ?_
          repeat with_reducible refine inb_normal ?_
          refine thn_normal ?_
          refine rnd (m - 1) _ (by omega) (List.Sublist.refl _) ⟨i + 1, by simp, rfl, by omega, fun k hk hki => ?_⟩
          rcases Nat.lt_or_ge k i with h | h
          · exact hall k hk h
          · obtain rfl : k = i := by omega
            simpa using h4
      ·
        have k3 := bp h3
        refine AW.exit ?_
        repeat with_reducible refine thn_exit ?_
        refine inb_exit ?_
        refine AW.seq ?_
        refine AW.region ?_
        refine st V.assign ?_
        refine sn ?_
        refine AW.ret ?_
        repeat with_reducible first | refine thn_ret ?_ | refine inb_ret ?_
        refine fin (Res.i1 rfl) ?_
        have e9 : knV d x = true := by rw [knV_eq, hnx, (knL_iff d _).2 (fun k hk => hall k hk (by omega))]; rfl
        exact ⟨_, (by repeat first | exact List.Sublist.refl _ | apply List.Sublist.cons), by rw [e9], rfl⟩
set_option maxHeartbeats 1600000 in
set_option synthInstance.maxHeartbeats 400000 in
set_option synthInstance.maxSize 100000 in
set_option maxRecDepth 100000 in
theorem build_c (d : List DT) (hT : TypedP d) (hB : BdD d) (b bz : Nat) (s : ByteArray) (at' : Int) : ∀ (z : Nat) (x : TT), SizeOf.sizeOf x < z → ∀ (t : Int), (0 ≤ t ∧ t ≤ d.length) → ∀ (M : Mem) (H : Heap) (Ad : Option Addr) (cd : Nat) (A : Option Addr) (c : Nat), RdS 2 (RdD M) Ad cd d → Mb M b [.string s, .int .i64 at', .func (.func 46) #[] #[.pointer (some ⟨bz, 0, none⟩)]] → Mb M bz [.slice Ad d.length cd] → VVT M A c x →
    AC Tryz.prog 50 [.pointer (some ⟨b, 0, none⟩), .slice Ad d.length cd, .int .i64 t, .agg #[.string x.name, .int .i64 x.num, .slice A x.args.length c]] M H fun r M' H' => VtR r M' (bdV d t x) ∧ H' = H
  | 0, _, hz => by omega
  | z + 1, x, hz => by
    intro t ht M H Ad cd A c hd q1 q3 hx
    have hbd := hd.bd
    have hba : x.args.length ≤ 140737488355328 := RdS.bd hx
    refine AC.of (n := 104) Tryz.func50 rfl rfl ?_
    dsimp only [List.replicate, List.cons_append, List.nil_append]
    refine AW.seq ?_
    refine AW.region ?_
    refine se (S.boxM ?_); intro b7 M7 i7 j7
    refine se (S.alloc ?_); intro b8
    refine st V.assign ?_
    refine sn ?_
    refine AW.seq ?_
    refine AW.seq ?_
    refine AW.region ?_
    refine st V.move ?_
    refine st V.eql ?_
    refine sn ?_
    refine cond (fun h1 => ?_) (fun h1 => ?_)
    ·
      have k1 := bp h1
      refine AW.seq ?_
      refine AW.regionD mx true [0, 1, 2, 3, 4, 5, 6, 7] [[], [0], [0, 1], [], [3], [3, 4], [0, 1, 2], [0, 1, 2, 3, 4, 5, 6]] (by kernel_rfl) ?_
      refine D.p rfl rfl V.faz ?_
      refine D.p rfl rfl V.ld ?_
      refine D.p rfl rfl (V.build (cells := [.int .i64 x.num, .int .i64 0, .slice none 0 0]) rfl) ?_
      refine D.p rfl rfl V.fa0 ?_
      refine D.p rfl rfl V.ld ?_
      refine D.p rfl rfl V.eqs ?_
      refine D.e rfl rfl (S.storeA rfl ?_)
      refine D.p rfl rfl V.assign ?_
      refine D.nl ?_
      refine AW.ret ?_
      repeat with_reducible first | refine thn_ret ?_ | refine inb_ret ?_
      refine fin (Res.ic2 rfl) ?_
      subst k1
      rw [bd_0]
      refine ⟨_, (by repeat first | exact List.Sublist.refl _ | apply List.Sublist.cons), ⟨_, _, _, _, _, _, rfl, ?_, ?_⟩, rfl⟩
      · split <;> simp_all
      · intro v hv
        split at hv
        · cases hv; exact ⟨rfl, rfl, rfl, RdS.nil⟩
        · cases hv
    ·
      have k1 := bp h1
      refine AW.skip ?_
      refine AW.seq ?_
      refine AW.regionD mx true [0, 1, 2, 3, 4, 5, 6, 7, 8, 9, 10, 11, 12, 13] [[], [0], [0, 1], [0, 1, 2], [], [4], [0, 1, 2, 3, 4, 5], [0, 1, 2, 3, 4, 5, 6], [0, 1, 2, 3, 4, 5, 6, 7], [0, 1, 2, 3, 4, 5, 6, 7], [0, 1, 2, 3, 4, 5, 6, 7], [0, 1, 2, 3, 4, 5, 6, 7, 8], [0, 1, 2, 3, 4, 5, 6, 7, 8, 9, 11], [0, 1, 2, 3, 4, 5, 6, 7, 8, 9, 10, 11, 12]] (by kernel_rfl) ?_
      refine D.p rfl rfl V.move ?_
      refine D.p rfl rfl (by first | exact V.nc | exact V.ncF) ?_
      refine D.p rfl rfl V.faz ?_
      refine D.p rfl rfl V.ld ?_
      refine D.p rfl rfl V.fa0 ?_
      refine D.p rfl rfl V.ld ?_
      refine D.e rfl rfl (S.call ?_)
      refine (look_c _ _ Ad cd d hd.upD bz (Mb.up (M := M) q3) x.name).use ?_
      rintro v N G iz ⟨rfl, hG⟩
      obtain rfl := hG.symm
      refine D.p rfl rfl V.move ?_
      refine D.p rfl rfl V.ext ?_
      refine D.p rfl rfl V.ext ?_
      refine D.p rfl rfl V.ext ?_
      refine D.p rfl rfl V.assign ?_
      refine D.p rfl rfl V.assign ?_
      refine D.p rfl rfl V.assign ?_
      refine D.nl ?_
      refine AW.cutL [] (9 :: 37 :: 38 :: 39 :: 40 :: 41 :: 42 :: 43 :: 44 :: 45 :: 46 :: 47 :: 48 :: 49 :: 50 :: 51 :: 52 :: 53 :: 54 :: 55 :: 56 :: 57 :: 58 :: 59 :: 60 :: 61 :: 62 :: 63 :: 64 :: 65 :: 66 :: []) (fun vs M' H' => vs = [] ∧ H' = .blk b8 (.cells #[.int .i64 0, .int .i64 0, .slice none 0 0] 26 (0, 0)) :: H ∧ ¬ (x.name = ⟨#[]⟩ ∨ (conF x.name d 1).2.2 = false ∨ (conF x.name d 1).1 ≠ t ∨ (fldC d t (conF x.name d 1).2.1).length ≠ x.args.length)) ?_ ?_
      ·
        refine AW.seq ?_
        refine AW.regionD mx false [0, 1, 2, 3, 4, 5, 6, 7, 8, 9, 10, 11, 12, 13, 14, 15, 16, 17, 18, 19, 20, 21, 22, 23, 24, 25, 26, 27, 28] [[], [0], [0, 1], [0, 1, 2], [0, 1, 2, 3], [0, 1, 2, 3, 4], [0, 1, 2, 3, 4, 5], [0, 1, 2, 3, 4, 5, 6], [0, 1, 2, 3, 4, 5, 6, 7], [0, 1, 2, 3, 4, 5, 6, 7], [0, 1, 2, 3, 4, 5, 6, 7, 8, 9], [0, 1, 2, 3, 4, 5, 6, 7, 8, 9, 10], [0, 1, 2, 3, 4, 5, 6, 7, 8, 9, 10, 11], [0, 1, 2, 3, 4, 5, 6, 7, 8, 9, 10, 11, 12], [0, 1, 2, 3, 4, 5, 6, 7, 8, 9, 10, 11, 12], [0, 1, 2, 3, 4, 5, 6, 7, 8, 9, 10, 11, 12, 14], [0, 1, 2, 3, 4, 5, 6, 7, 8, 9, 10, 11, 12, 13, 14, 15], [0, 1, 2, 3, 4, 5, 6, 7, 8, 9, 10, 11, 12, 13, 14, 15, 16], [0, 1, 2, 3, 4, 5, 6, 7, 8, 9, 10, 11, 12, 13, 14, 15, 16, 17], [0, 1, 2, 3, 4, 5, 6, 7, 8, 9, 10, 11, 12], [0, 1, 2, 3, 4, 5, 6, 7, 8, 9, 10, 11, 12, 13, 14, 15, 16, 17, 18, 19], [0, 1, 2, 3, 4, 5, 6, 7, 8, 9, 10, 11, 12, 13, 14, 15, 16, 17, 18, 19, 20], [0, 1, 2, 3, 4, 5, 6, 7, 8, 9, 10, 11, 12, 13, 14, 15, 16, 17, 18, 19, 20, 21], [0, 1, 2, 3, 4, 5, 6, 7, 8, 9, 10, 11, 12, 13, 14, 15, 16, 17, 18, 19, 20, 21, 22], [0, 1, 2, 3, 4, 5, 6, 7, 8, 9, 10, 11, 12], [0, 1, 2, 3, 4, 5, 6, 7, 8, 9, 10, 11, 12, 24], [0, 1, 2, 3, 4, 5, 6, 7, 8, 9, 10, 11, 12, 24, 25], [0, 1, 2, 3, 4, 5, 6, 7, 8, 9, 10, 11, 12, 13, 14, 15, 16, 17, 18, 19, 20, 21, 22, 23, 24, 25, 26], [0, 1, 2, 3, 4, 5, 6, 7, 8, 9, 10, 11, 12, 13, 14, 15, 16, 17, 18, 19, 20, 21, 22, 23, 24, 25, 26, 27]] (by kernel_rfl) ?_
        refine D.p rfl rfl V.fa0 ?_
        first | refine D.p rfl rfl V.ld ?_ | refine D.q rfl rfl V.lo ?_
        refine D.p rfl rfl V.eqs ?_
        refine D.p rfl rfl V.move ?_
        refine D.onoff false true rfl 40 (fun h2 => ?_) (fun h2 => ?_)
        ·
          have k2 := bp h2
          refine D.pOn rfl rfl h2 rfl V.move ?_
          refine D.pOn rfl rfl h2 rfl V.not ?_
          refine D.p rfl rfl (V.pF h2) ?_
          refine D.p rfl rfl V.move ?_
          refine D.onoff false true rfl 44 (fun h3 => ?_) (fun h3 => ?_)
          ·
            have k3 := bp h3
            refine D.pOn rfl rfl h3 rfl V.move ?_
            refine D.pOn rfl rfl h3 rfl V.move ?_
            refine D.pOn rfl rfl h3 rfl V.neq ?_
            refine D.p rfl rfl (V.pF h3) ?_
            refine D.p rfl rfl V.move ?_
            refine D.onoff false true rfl 49 (fun h4 => ?_) (fun h4 => ?_)
            ·
              have k4 := bp h4
              have hcf : (conF x.name d 1).2.2 = true := by simpa using h3
              obtain ⟨p, k, hp, hk, e1, e2, e3⟩ := conF_fit hcf
              obtain ⟨bx8, o8, hA8, i0, ib0, A8, c8, i1, i2⟩ := (hd.upD (M' := N)).at p hp
              obtain ⟨bx9, o9, hA9, j0, jb, A9, c9, j1, j2⟩ := i2.at k hk
              have hb9 := j2.bd
              have hb8 := i2.bd
              refine D.pOn rfl rfl h4 rfl V.move ?_
              refine D.pOn rfl rfl h4 rfl V.move ?_
              refine D.pOn rfl rfl h4 rfl (V.sub64 (by omega)) ?_
              refine D.pOn rfl rfl h4 rfl (V.ib p (by omega) hp hA8) ?_
              refine D.pOn rfl rfl h4 rfl V.fa ?_
              first | refine D.pOn rfl rfl h4 rfl V.ld ?_ | refine D.qOn rfl rfl h4 rfl V.lo ?_
              refine D.pOn rfl rfl h4 rfl V.move ?_
              refine D.pOn rfl rfl h4 rfl (V.ib k (by omega) hk hA9) ?_
              refine D.pOn rfl rfl h4 rfl V.fa ?_
              first | refine D.pOn rfl rfl h4 rfl V.ld ?_ | refine D.qOn rfl rfl h4 rfl V.lo ?_
              refine D.pOn rfl rfl h4 rfl V.len ?_
              refine D.pOn rfl rfl h4 rfl V.faz ?_
              first | refine D.pOn rfl rfl h4 rfl V.ld ?_ | refine D.qOn rfl rfl h4 rfl V.lo ?_
              refine D.pOn rfl rfl h4 rfl V.len ?_
              refine D.pOn rfl rfl h4 rfl V.neq ?_
              refine D.p rfl rfl (V.pF h4) ?_
              refine D.nl ?_
              refine cond (fun h5 => ?_) (fun h5 => ?_)
              ·
                have k5 := bp h5
                refine AW.seq ?_
                refine AW.region ?_
                refine st (V.build (cells := [.int .i64 0, .int .i64 0, .slice none 0 0]) rfl) ?_
                refine se (S.storeA rfl ?_)
                refine st V.assign ?_
                refine sn ?_
                refine AW.ret ?_
                repeat with_reducible first | refine thn_ret ?_ | refine inb_ret ?_
                refine fin (Res.ic2 rfl) ?_
                have e9 : bdV d t x = none := bd_no d x k1 (.inr (.inr (.inr (by rw [show t = (p : Int) + 1 by omega, e2, e3]; omega))))
                refine ⟨_, (by repeat first | exact List.Sublist.refl _ | apply List.Sublist.cons), VtR.none e9, rfl⟩
              ·
                have k5 := bp h5
                refine AW.skip ?_
                repeat with_reducible refine inb_normal ?_
                refine thn_normal ?_
                refine met _ (List.Sublist.refl _) ⟨rfl, rfl, ?_⟩
                rintro (h | h | h | h)
                · exact k2 h
                · rw [hcf] at h; cases h
                · exact h k4
                · apply h; rw [show t = (p : Int) + 1 by omega, e2, e3]; omega
            ·
              have k4 := bp h4
              refine D.off rfl rfl (by rw [h4]; decide) ?_
              refine D.off rfl rfl (by rw [h4]; decide) ?_
              refine D.off rfl rfl (by rw [h4]; decide) ?_
              refine D.off rfl rfl (by rw [h4]; decide) ?_
              refine D.off rfl rfl (by rw [h4]; decide) ?_
              refine D.off rfl rfl (by rw [h4]; decide) ?_
              refine D.off rfl rfl (by rw [h4]; decide) ?_
              refine D.off rfl rfl (by rw [h4]; decide) ?_
              refine D.off rfl rfl (by rw [h4]; decide) ?_
              refine D.off rfl rfl (by rw [h4]; decide) ?_
              refine D.off rfl rfl (by rw [h4]; decide) ?_
              refine D.off rfl rfl (by rw [h4]; decide) ?_
              refine D.off rfl rfl (by rw [h4]; decide) ?_
              refine D.off rfl rfl (by rw [h4]; decide) ?_
              refine D.off rfl rfl (by rw [h4]; decide) ?_
              refine D.p rfl rfl (V.pT h4) ?_
              refine D.nl ?_
              refine cond (fun _ => ?_) (fun h => by cases h)
              refine AW.seq ?_
              refine AW.region ?_
              refine st (V.build (cells := [.int .i64 0, .int .i64 0, .slice none 0 0]) rfl) ?_
              refine se (S.storeA rfl ?_)
              refine st V.assign ?_
              refine sn ?_
              refine AW.ret ?_
              repeat with_reducible first | refine thn_ret ?_ | refine inb_ret ?_
              refine fin (Res.ic2 rfl) ?_
              have e9 : bdV d t x = none := bd_no d x k1 (.inr (.inr (.inl k4)))
              refine ⟨_, (by repeat first | exact List.Sublist.refl _ | apply List.Sublist.cons), VtR.none e9, rfl⟩
          ·
            have k3 := bp h3
            refine D.off rfl rfl (by rw [h3]; decide) ?_
            refine D.off rfl rfl (by rw [h3]; decide) ?_
            refine D.off rfl rfl (by rw [h3]; decide) ?_
            refine D.p rfl rfl (V.pT h3) ?_
            refine D.p rfl rfl V.move ?_
            refine D.off rfl rfl (by decide) ?_
            refine D.off rfl rfl (by decide) ?_
            refine D.off rfl rfl (by decide) ?_
            refine D.off rfl rfl (by decide) ?_
            refine D.off rfl rfl (by decide) ?_
            refine D.off rfl rfl (by decide) ?_
            refine D.off rfl rfl (by decide) ?_
            refine D.off rfl rfl (by decide) ?_
            refine D.off rfl rfl (by decide) ?_
            refine D.off rfl rfl (by decide) ?_
            refine D.off rfl rfl (by decide) ?_
            refine D.off rfl rfl (by decide) ?_
            refine D.off rfl rfl (by decide) ?_
            refine D.off rfl rfl (by decide) ?_
            refine D.off rfl rfl (by decide) ?_
            refine D.p rfl rfl (V.pT rfl) ?_
            refine D.nl ?_
            refine cond (fun _ => ?_) (fun h => by cases h)
            refine AW.seq ?_
            refine AW.region ?_
            refine st (V.build (cells := [.int .i64 0, .int .i64 0, .slice none 0 0]) rfl) ?_
            refine se (S.storeA rfl ?_)
            refine st V.assign ?_
            refine sn ?_
            refine AW.ret ?_
            repeat with_reducible first | refine thn_ret ?_ | refine inb_ret ?_
            refine fin (Res.ic2 rfl) ?_
            have e9 : bdV d t x = none := bd_no d x k1 (.inr (.inl (by simpa using h3)))
            refine ⟨_, (by repeat first | exact List.Sublist.refl _ | apply List.Sublist.cons), VtR.none e9, rfl⟩
        ·
          have k2 := bp h2
          refine D.off rfl rfl (by rw [h2]; decide) ?_
          refine D.off rfl rfl (by rw [h2]; decide) ?_
          refine D.p rfl rfl (V.pT h2) ?_
          refine D.p rfl rfl V.move ?_
          refine D.off rfl rfl (by decide) ?_
          refine D.off rfl rfl (by decide) ?_
          refine D.off rfl rfl (by decide) ?_
          refine D.p rfl rfl (V.pT rfl) ?_
          refine D.p rfl rfl V.move ?_
          refine D.off rfl rfl (by decide) ?_
          refine D.off rfl rfl (by decide) ?_
          refine D.off rfl rfl (by decide) ?_
          refine D.off rfl rfl (by decide) ?_
          refine D.off rfl rfl (by decide) ?_
          refine D.off rfl rfl (by decide) ?_
          refine D.off rfl rfl (by decide) ?_
          refine D.off rfl rfl (by decide) ?_
          refine D.off rfl rfl (by decide) ?_
          refine D.off rfl rfl (by decide) ?_
          refine D.off rfl rfl (by decide) ?_
          refine D.off rfl rfl (by decide) ?_
          refine D.off rfl rfl (by decide) ?_
          refine D.off rfl rfl (by decide) ?_
          refine D.off rfl rfl (by decide) ?_
          refine D.p rfl rfl (V.pT rfl) ?_
          refine D.nl ?_
          refine cond (fun _ => ?_) (fun h => by cases h)
          refine AW.seq ?_
          refine AW.region ?_
          refine st (V.build (cells := [.int .i64 0, .int .i64 0, .slice none 0 0]) rfl) ?_
          refine se (S.storeA rfl ?_)
          refine st V.assign ?_
          refine sn ?_
          refine AW.ret ?_
          repeat with_reducible first | refine thn_ret ?_ | refine inb_ret ?_
          refine fin (Res.ic2 rfl) ?_
          have e9 : bdV d t x = none := bd_no d x k1 (.inl k2)
          refine ⟨_, (by repeat first | exact List.Sublist.refl _ | apply List.Sublist.cons), VtR.none e9, rfl⟩
      ·
        intro Mc6 Hc6 iC6  hJ u9 u37 u38 u39 u40 u41 u42 u43 u44 u45 u46 u47 u48 u49 u50 u51 u52 u53 u54 u55 u56 u57 u58 u59 u60 u61 u62 u63 u64 u65 u66
        obtain ⟨hv, hH, hok⟩ := hJ
        subst hH
        have hcf : (conF x.name d 1).2.2 = true := by
          cases hq : (conF x.name d 1).2.2 with
          | true => rfl
          | false => exact absurd (.inr (.inl hq)) hok
        obtain ⟨p, k, hp, hk, e1, e2, e3⟩ := conF_fit hcf
        have e4 : t = (p : Int) + 1 := by
          have : (conF x.name d 1).1 = t := Decidable.byContradiction fun h => hok (.inr (.inr (.inl h)))
          omega
        have e5 : d[p].cons[k].fields.length = x.args.length := Decidable.byContradiction fun h => hok (.inr (.inr (.inr (by rw [e4, e2, e3]; exact h))))
        have hbv : bdV d t x = (bdL d d[p].cons[k].fields x.args).map fun vs => ⟨0, (k : Int), vs⟩ := by rw [bd_yes d x k1 hok, e2, show fldC d t (k : Int) = d[p].cons[k].fields from by rw [e4]; exact e3]
        have hbf := (hB p hp).2 k hk
        rw [e2]
        obtain ⟨bx8, o8, hA8, i0, ib0, A8, c8, i1, i2⟩ := (hd.upD (M' := Mc6)).at p hp
        obtain ⟨bx9, o9, hA9, j0, jb, A9, c9, j1, j2⟩ := i2.at k hk
        have hb9 := j2.bd
        have hb8 := i2.bd
        refine sa ?_
        refine AW.seq ?_
        refine AW.region ?_
        refine st V.move ?_
        refine st (V.build (cells := [.int .i64 0, .int .i64 k, .slice none 0 0]) rfl) ?_
        refine se (S.alloc ?_); intro b13
        refine se (S.storeA rfl ?_)
        refine sn ?_
        refine AW.seq ?_
        refine AW.seq ?_
        refine AW.region ?_
        refine st V.move ?_
        refine st V.move ?_
        refine st (V.sub64 (by omega)) ?_
        refine st (V.ib p (by omega) hp hA8) ?_
        refine st V.fa ?_
        first | refine st V.ld ?_ | refine sq V.lo ?_
        refine st V.move ?_
        refine st (V.ib k rfl hk hA9) ?_
        refine st V.fa ?_
        first | refine st V.ld ?_ | refine sq V.lo ?_
        refine st V.len ?_
        refine st V.move ?_
        refine sn ?_
        refine AW.block ?_
        refine AW.row0 26 3 ?_
        refine AW.loopL [80] (9 :: 14 :: 15 :: 16 :: 17 :: 81 :: 82 :: 83 :: 84 :: 85 :: 86 :: 87 :: 88 :: 89 :: 90 :: 91 :: 92 :: 93 :: 94 :: 95 :: 96 :: 97 :: 98 :: 99 :: 100 :: 101 :: 102 :: 103 :: 104 :: 105 :: 106 :: []) (fun m vs M' H' => ∃ (i : Nat) (A' : Option Addr) (c' : Nat) (cs : List Value) (l : List VT), vs = [.int .i64 (i : Int)] ∧ H' = .row A' i c' 26 3 cs :: .blk b13 (.cells #[.int .i64 0, .int .i64 k, .slice A' i c'] 26 (0, 0)) :: .blk b8 (.cells #[.int .i64 0, .int .i64 0, .slice none 0 0] 26 (0, 0)) :: H ∧ i + m = d[p].cons[k].fields.length ∧ FlV M' cs l ∧ l.length = i ∧ bdL d d[p].cons[k].fields x.args = (bdL d (d[p].cons[k].fields.drop i) (x.args.drop i)).map (l ++ ·)) (d[p].cons[k].fields.length) (⟨0, none, 0, [], [], rfl, rfl, by omega, rfl, rfl, by simp⟩) ?_
        intro m Ml Hl iL u80 hI u9 u14 u15 u16 u17 u81 u82 u83 u84 u85 u86 u87 u88 u89 u90 u91 u92 u93 u94 u95 u96 u97 u98 u99 u100 u101 u102 u103 u104 u105 u106
        obtain ⟨i, A', c', cs, l, hv', hH, hi, hf, hll, hw⟩ := hI
        subst hH
        cases hv'
        refine sa ?_
        refine AW.seq ?_
        refine AW.region ?_
        refine st V.lss ?_
        refine sn ?_
        refine AW.seq ?_
        refine cond (fun h9 => ?_) (fun h9 => ?_)
        ·
          have k9 := bp h9
          refine AW.skip ?_
          refine AW.seq ?_
          refine AW.block ?_
          refine AW.seq ?_
          have z6 : i < x.args.length := by omega
          obtain ⟨ba, oa, hAa, ea⟩ := (VVT.up (M' := Ml) hx).at i z6
          obtain ⟨Ax, cx, x0, x1, x2, xs⟩ := ea.get
          obtain ⟨bw, ow, hAw, ew⟩ := (j2.upI (M' := Ml)).at i (by omega)
          have ew : Mk Ml bw (ow + i * 1) (.int .i64 d[p].cons[k].fields[i]) := ew
          refine AW.region ?_
          refine st V.move ?_
          refine st (V.ib i rfl (by omega) hAw) ?_
          first | refine st V.ld ?_ | refine sq V.lo ?_
          refine st V.assign ?_
          refine st V.assign ?_
          refine sn ?_
          refine AW.seq ?_
          refine AW.region ?_
          refine st V.move ?_
          refine st V.move ?_
          refine st V.move ?_
          refine st V.faz ?_
          first | refine st V.ld ?_ | refine sq V.lo ?_
          refine st V.move ?_
          refine st (V.ib i rfl z6 hAa) ?_
          first | refine st V.ldA ?_ | refine sq V.loA ?_
          refine se (S.call ?_)
          refine (build_c d hT hB b bz s at' z x.args[i] (by have := List.sizeOf_lt_of_mem (List.getElem_mem z6); cases x; simp [TT.args] at *; omega) d[p].cons[k].fields[i] (hT p hp k hk _ (List.getElem_mem (by omega))) _ _ Ad cd Ax cx hd.upD (Mb.up (M := M) q1) (Mb.up (M := M) q3) (VVT.up (x := x.args[i]) xs)).use ?_
          rintro v8 N8 G8 iz8 ⟨⟨n8, k8, Ay, l8, cy, ok8, rfl, ho8, hw8⟩, hG⟩
          obtain rfl := hG.symm
          refine st V.move ?_
          refine st V.ext ?_
          refine st V.ext ?_
          refine se (S.alloc ?_); intro b16
          refine se (S.storeA rfl ?_)
          refine st V.assign ?_
          refine sn ?_
          refine AW.seq ?_
          refine AW.seq ?_
          refine AW.fz 0 fun Mv iv jv => ?_
          refine AW.region ?_
          refine st V.move ?_
          refine st V.not ?_
          refine sn ?_
          refine cond (fun h10 => ?_) (fun h10 => ?_)
          ·
            have k10 := bp h10
            refine AW.seq ?_
            refine AW.region ?_
            refine st (V.build (cells := [.int .i64 0, .int .i64 0, .slice none 0 0]) rfl) ?_
            refine se (S.storeA rfl ?_)
            refine st V.assign ?_
            refine sn ?_
            refine AW.ret ?_
            repeat with_reducible first | refine thn_ret ?_ | refine inb_ret ?_
            refine fin (Res.ic2 rfl) ?_
            have e8 : bdV d d[p].cons[k].fields[i] x.args[i] = none := by
              cases hq : bdV d d[p].cons[k].fields[i] x.args[i] with
              | none => rfl
              | some v => rw [hq] at ho8; subst ho8; simp at h10
            have e9 : bdV d t x = none := by rw [hbv, bdL_fail z6 (by omega) e8 hw]; rfl
            refine ⟨_, (by repeat first | exact List.Sublist.refl _ | apply List.Sublist.cons), VtR.none e9, rfl⟩
          ·
            have k10 := bp h10
            refine AW.skip ?_
            refine AW.region ?_
            refine st V.faz ?_
            first | refine st V.ld ?_ | refine sq V.lo ?_
            first | refine st V.ldA ?_ | refine sq V.loA ?_
            refine se (S.lit1 (by rfl) (by decide) ?_); intro g103
            refine se (S.ap1 (by rfl) (by omega) (by omega) ?_)
            intro A2 c2
            refine st V.faz ?_
            refine se (S.store ?_)
            refine sn ?_
            refine AW.region ?_
            refine st (V.add64 (by omega)) ?_
            refine st V.move ?_
            refine sn ?_
            repeat with_reducible refine inb_normal ?_
            refine thn_normal ?_
            obtain ⟨v8, hv8⟩ : ∃ v, bdV d d[p].cons[k].fields[i] x.args[i] = some v := Option.isSome_iff_exists.1 (by rw [← ho8]; simpa using h10)
            obtain ⟨rfl, rfl, rfl, hvv⟩ := hw8 v8 hv8
            refine rnd (m - 1) _ (by omega) (List.Sublist.refl _) ⟨i + 1, A2, c2, _, l ++ [v8], by simp, rfl, by omega, (hf.up (M' := Mv)).app (FlV.one (VV.up hvv)), by simp [hll], bdL_step z6 (by omega) hv8 hw⟩
        ·
          have k9 := bp h9
          refine AW.exit ?_
          repeat with_reducible refine thn_exit ?_
          refine inb_exit ?_
          refine AW.seq ?_
          refine AW.kp 0 fun Mk ik hk' => ?_
          refine AW.region ?_
          first | refine st V.ldA ?_ | refine sq V.loA ?_
          refine se (S.storeA rfl ?_)
          refine st V.assign ?_
          refine sn ?_
          refine AW.ret ?_
          repeat with_reducible first | refine thn_ret ?_ | refine inb_ret ?_
          refine fin (Res.ic2 rfl) ?_
          obtain ⟨hkl, hr⟩ := hk'.vals hf.up (by omega)
          have e9 : bdV d t x = some ⟨0, (k : Int), l⟩ := by rw [hbv, bdL_end (by omega) hw]; rfl
          refine ⟨_, (by repeat first | exact List.Sublist.refl _ | apply List.Sublist.cons), VtR.some e9 hkl hr, rfl⟩
end Go.Proofs.YtieaiheejhmbfaaGreatDoor.ML
/- What Parse computes. No conditions. -/
namespace Go.Proofs.YtieaiheejhmbfaaGreatDoor.ML
open Go.RowKit
set_option linter.unusedVariables false
set_option linter.unusedSimpArgs false
noncomputable def parseF (d : List DT) (t : Int) (s : ByteArray) : VT × Int :=
  if tableF d t ≠ 0 then (⟨0, 0, []⟩, tableF d t)
  else if 65536 < s.size then (⟨0, 0, []⟩, 5)
  else match termF s (s.size + 1) 0 with
    | (none, _) => (⟨0, 0, []⟩, 4)
    | (some x, e) => if e < s.size then (⟨0, 0, []⟩, 4) else if knV d x = false then (⟨0, 0, []⟩, 9) else match bdV d t x with
      | none => (⟨0, 0, []⟩, 10)
      | some v => (v, 0)
def PzR (r : Value) (M : Mem) (p : VT × Int) : Prop := ∃ A c, r = .tuple #[.agg #[.int .i64 p.1.num, .int .i64 p.1.con, .slice A p.1.args.length c], .int .i64 p.2] ∧ VV M A c p.1
theorem PzR.zero {e : Int} {M : Mem} {p : VT × Int} (h : p = (⟨0, 0, []⟩, e)) : PzR (.tuple #[.agg #[.int .i64 0, .int .i64 0, .slice none 0 0], .int .i64 e]) M p := by subst h; exact ⟨_, _, rfl, RdS.nil⟩
section
variable {d : List DT} {t : Int} {s : ByteArray}
theorem pa_0 (h : ¬ tableF d t = 0) : parseF d t s = (⟨0, 0, []⟩, tableF d t) := by rw [parseF, if_pos h]
theorem pa_1 (h : tableF d t = 0) (h1 : 65536 < s.size) : parseF d t s = (⟨0, 0, []⟩, 5) := by rw [parseF, if_neg (fun hh => hh h), if_pos h1]
theorem pa_2 (h : tableF d t = 0) (h1 : ¬ 65536 < s.size) (h2 : (termF s (s.size + 1) 0).1.isSome = false) : parseF d t s = (⟨0, 0, []⟩, 4) := by
  rw [parseF, if_neg (fun hh => hh h), if_neg h1]
  cases hq : termF s (s.size + 1) 0 with
  | mk o e => cases o with
    | none => rfl
    | some x => rw [hq] at h2; cases h2
theorem pa_x (h : tableF d t = 0) (h1 : ¬ 65536 < s.size) {x : TT} (h2 : (termF s (s.size + 1) 0).1 = some x) : parseF d t s = ((if (termF s (s.size + 1) 0).2 < s.size then (⟨0, 0, []⟩, 4) else if knV d x = false then (⟨0, 0, []⟩, 9) else match bdV d t x with
      | none => (⟨0, 0, []⟩, 10)
      | some v => (v, 0)) : VT × Int) := by
  rw [parseF, if_neg (fun hh => hh h), if_neg h1]
  cases hq : termF s (s.size + 1) 0 with
  | mk o e => rw [hq] at h2; cases h2; rfl
end
end Go.Proofs.YtieaiheejhmbfaaGreatDoor.ML
/- Walks of functions of the program, in the abstract layer. No conditions. -/
namespace Go.Proofs.YtieaiheejhmbfaaGreatDoor.ML
open Go.RowKit
set_option linter.unusedVariables false
set_option linter.unusedSimpArgs false
set_option maxHeartbeats 1600000 in
set_option synthInstance.maxHeartbeats 400000 in
set_option synthInstance.maxSize 100000 in
set_option maxRecDepth 100000 in
theorem parse_c (M : Mem) (H : Heap) (hGM : GM M) (Ad : Option Addr) (cd : Nat) (d : List DT) (hd : RdS 2 (RdD M) Ad cd d) (t : Int) (s : ByteArray) (hsz : s.size ≤ 140737488355328) :
    AC Tryz.prog 20 [.slice Ad d.length cd, .int .i64 t, .string s] M H fun r M' H' => PzR r M' (parseF d t s) ∧ H' = H := by
  refine AC.of (n := 59) Tryz.func20 rfl rfl ?_
  dsimp only [List.replicate, List.cons_append, List.nil_append]
  refine AW.seq ?_
  refine AW.region ?_
  refine se (S.boxM ?_); intro b3 M3 i3 j3
  refine se (S.alloc ?_); intro b6
  refine st V.assign ?_
  refine sn ?_
  refine AW.seq ?_
  refine AW.seq ?_
  refine AW.region ?_
  first | refine st V.ld ?_ | refine sq V.lo ?_
  refine st V.move ?_
  refine se (S.call ?_)
  refine (table_c _ _ Ad cd d hd.upD t).use ?_
  rintro v N G iz ⟨rfl, hG⟩
  obtain rfl := hG.symm
  refine st V.assign ?_
  refine sn ?_
  refine AW.seq ?_
  refine AW.region ?_
  refine st V.move ?_
  refine st V.neq ?_
  refine sn ?_
  refine cond (fun h1 => ?_) (fun h1 => ?_)
  ·
    have k1 := bp h1
    refine AW.seq ?_
    refine AW.region ?_
    refine st (V.build (cells := [.int .i64 0, .int .i64 0, .slice none 0 0]) rfl) ?_
    refine st V.move ?_
    refine se (S.storeA rfl ?_)
    refine st V.assign ?_
    refine sn ?_
    refine AW.ret ?_
    repeat with_reducible first | refine thn_ret ?_ | refine inb_ret ?_
    refine fin (Res.ic2 rfl) ?_
    refine ⟨_, (by repeat first | exact List.Sublist.refl _ | apply List.Sublist.cons), PzR.zero (pa_0 k1), rfl⟩
  ·
    have k1 := bp h1
    refine AW.skip ?_
    refine AW.seq ?_
    refine AW.seq ?_
    refine AW.region ?_
    refine st V.move ?_
    refine st V.lenS ?_
    refine st V.gtr ?_
    refine sn ?_
    refine cond (fun h2 => ?_) (fun h2 => ?_)
    ·
      have k2 := bp h2
      refine AW.seq ?_
      refine AW.region ?_
      refine st (V.build (cells := [.int .i64 0, .int .i64 0, .slice none 0 0]) rfl) ?_
      refine se (S.storeA rfl ?_)
      refine st V.assign ?_
      refine sn ?_
      refine AW.ret ?_
      repeat with_reducible first | refine thn_ret ?_ | refine inb_ret ?_
      refine fin (Res.ic2 rfl) ?_
      refine ⟨_, (by repeat first | exact List.Sublist.refl _ | apply List.Sublist.cons), PzR.zero (pa_1 k1 (by omega)), rfl⟩
    ·
      have k2 := bp h2
      refine AW.skip ?_
      refine AW.seq ?_
      obtain ⟨hc0, ht⟩ := tableF_ok k1
      have hT := (checkF_ok hc0).2.2.2.1
      obtain ⟨hB, hdl⟩ := checkF_bd hc0
      refine AW.region ?_
      refine st V.move ?_
      refine st V.fn ?_
      refine st (V.build (cells := [.string s, .int .i64 0, .func (.func 46) #[] #[.pointer (some ⟨b3, 0, none⟩)]]) rfl) ?_
      refine se (S.box ?_); intro b27
      refine st V.assign ?_
      refine sn ?_
      refine AW.seq ?_
      refine AW.region ?_
      refine st V.move ?_
      refine se (S.call ?_)
      refine (term_c s (by omega) b27 (.func (.func 46) #[] #[.pointer (some ⟨b3, 0, none⟩)]) (s.size + 2) (s.size + 1) (by omega) 0 (by omega) (by omega) _ _ hGM.up).use ?_
      rintro v7 N7 G7 iz7 ⟨⟨nm7, nu7, A7, n7, c7, ok7, rfl, ho7, hw7⟩, hG⟩
      subst hG
      have htl := (term_le s (s.size + 1)).1 0 (by omega)
      refine st V.move ?_
      refine st V.ext ?_
      refine st V.ext ?_
      refine se (S.alloc ?_); intro b10
      refine se (S.storeA rfl ?_)
      refine st V.assign ?_
      refine sn ?_
      refine AW.seq ?_
      refine AW.seq ?_
      refine AW.fz 0 fun M10 i10 j10 => ?_
      refine AW.fz 0 fun Mr ir jr => ?_
      refine AW.region ?_
      refine st V.move ?_
      refine st V.not ?_
      refine st V.move ?_
      refine onoff true rfl rfl (fun h3 => ?_) (fun h3 => ?_)
      ·
        have k3 := bp h3
        obtain ⟨x, hx⟩ : ∃ t, (termF s (s.size + 1) 0).1 = some t := Option.isSome_iff_exists.1 (by rw [← ho7]; simpa using h3)
        obtain ⟨rfl, rfl, rfl, hxx⟩ := hw7 x hx
        have hpx := pa_x (d := d) (t := t) k1 (by omega) hx
        refine st V.move ?_
        refine on rfl h3 ?_
        refine st (by first | exact V.nc | exact V.ncF) ?_
        refine on rfl h3 ?_
        refine st V.faz ?_
        refine on rfl h3 ?_
        first | refine st V.ld ?_ | refine sq V.lo ?_
        refine on rfl h3 ?_
        refine st V.move ?_
        refine on rfl h3 ?_
        refine st V.lenS ?_
        refine on rfl h3 ?_
        refine st V.lss ?_
        refine st (V.pF h3) ?_
        refine sn ?_
        refine cond (fun h4 => ?_) (fun h4 => ?_)
        ·
          have k4 := bp h4
          refine AW.seq ?_
          refine AW.region ?_
          refine st (V.build (cells := [.int .i64 0, .int .i64 0, .slice none 0 0]) rfl) ?_
          refine se (S.storeA rfl ?_)
          refine st V.assign ?_
          refine sn ?_
          refine AW.ret ?_
          repeat with_reducible first | refine thn_ret ?_ | refine inb_ret ?_
          refine fin (Res.ic2 rfl) ?_
          refine ⟨_, (by repeat first | exact List.Sublist.refl _ | apply List.Sublist.cons), PzR.zero (by rw [hpx, if_pos (by omega)]), rfl⟩
        ·
          have k4 := bp h4
          refine AW.skip ?_
          refine AW.seq ?_
          refine AW.seq ?_
          refine AW.region ?_
          refine st V.move ?_
          first | refine st V.ldA ?_ | refine sq V.loA ?_
          refine se (S.call ?_)
          refine (known_c d b27 b3 s _ (SizeOf.sizeOf x + 1) x (by omega) _ _ Ad cd A7 c7 hd.upD (Mb.up (M := Mr) jr) inferInstance (VVT.up hxx)).use ?_
          rintro vk Nk Gk izk ⟨rfl, hG⟩
          obtain rfl := hG.symm
          refine st V.not ?_
          refine sn ?_
          refine cond (fun h5 => ?_) (fun h5 => ?_)
          ·
            have k5 := bp h5
            refine AW.seq ?_
            refine AW.region ?_
            refine st (V.build (cells := [.int .i64 0, .int .i64 0, .slice none 0 0]) rfl) ?_
            refine se (S.storeA rfl ?_)
            refine st V.assign ?_
            refine sn ?_
            refine AW.ret ?_
            repeat with_reducible first | refine thn_ret ?_ | refine inb_ret ?_
            refine fin (Res.ic2 rfl) ?_
            refine ⟨_, (by repeat first | exact List.Sublist.refl _ | apply List.Sublist.cons), PzR.zero (by rw [hpx, if_neg (by omega), if_pos (by simpa using h5)]), rfl⟩
          ·
            have k5 := bp h5
            refine AW.skip ?_
            refine AW.seq ?_
            refine AW.region ?_
            refine st V.move ?_
            first | refine st V.ld ?_ | refine sq V.lo ?_
            refine st V.move ?_
            first | refine st V.ldA ?_ | refine sq V.loA ?_
            refine se (S.call ?_)
            refine (build_c d hT hB b27 b3 s _ (SizeOf.sizeOf x + 1) x (by omega) t ht _ _ Ad cd A7 c7 hd.upD (Mb.up (M := Mr) jr) inferInstance (VVT.up hxx)).use ?_
            rintro vb Nb Gb izb ⟨⟨n8, k8, Ay, l8, cy, ok8, rfl, ho8, hw8⟩, hG⟩
            obtain rfl := hG.symm
            refine st V.move ?_
            refine st V.ext ?_
            refine st V.ext ?_
            refine se (S.alloc ?_); intro b12
            refine se (S.storeA rfl ?_)
            refine st V.assign ?_
            refine sn ?_
            refine AW.seq ?_
            refine AW.seq ?_
            refine AW.region ?_
            refine st V.move ?_
            refine st V.not ?_
            refine sn ?_
            refine cond (fun h6 => ?_) (fun h6 => ?_)
            ·
              have k6 := bp h6
              refine AW.seq ?_
              refine AW.region ?_
              refine st (V.build (cells := [.int .i64 0, .int .i64 0, .slice none 0 0]) rfl) ?_
              refine se (S.storeA rfl ?_)
              refine st V.assign ?_
              refine sn ?_
              refine AW.ret ?_
              repeat with_reducible first | refine thn_ret ?_ | refine inb_ret ?_
              refine fin (Res.ic2 rfl) ?_
              refine ⟨_, (by repeat first | exact List.Sublist.refl _ | apply List.Sublist.cons), PzR.zero (by rw [hpx, if_neg (by omega), if_neg (by simpa using h5)]; cases hq : bdV d t x with | none => rfl | some v => (rw [hq] at ho8; subst ho8; simp at h6)), rfl⟩
            ·
              have k6 := bp h6
              refine AW.skip ?_
              refine AW.seq ?_
              refine AW.region ?_
              first | refine st V.ldA ?_ | refine sq V.loA ?_
              refine se (S.storeA rfl ?_)
              refine st V.assign ?_
              refine sn ?_
              refine AW.ret ?_
              repeat with_reducible first | refine thn_ret ?_ | refine inb_ret ?_
              refine fin (Res.ic2 rfl) ?_
              obtain ⟨v, hv⟩ : ∃ v, bdV d t x = some v := Option.isSome_iff_exists.1 (by rw [← ho8]; simpa using h6)
              obtain ⟨rfl, rfl, rfl, hvv⟩ := hw8 v hv
              have e9 : parseF d t s = (v, 0) := by rw [hpx, if_neg (by omega), if_neg (by simpa using h5), hv]
              rw [e9]
              refine ⟨_, (by repeat first | exact List.Sublist.refl _ | apply List.Sublist.cons), ⟨_, _, rfl, VV.up hvv⟩, rfl⟩
      ·
        have k3 := bp h3
        refine off rfl h3 ?_
        refine off rfl h3 ?_
        refine off rfl h3 ?_
        refine off rfl h3 ?_
        refine off rfl h3 ?_
        refine off rfl h3 ?_
        refine st (V.pT h3) ?_
        refine sn ?_
        refine cond (fun _ => ?_) (fun h => by cases h)
        refine AW.seq ?_
        refine AW.region ?_
        refine st (V.build (cells := [.int .i64 0, .int .i64 0, .slice none 0 0]) rfl) ?_
        refine se (S.storeA rfl ?_)
        refine st V.assign ?_
        refine sn ?_
        refine AW.ret ?_
        repeat with_reducible first | refine thn_ret ?_ | refine inb_ret ?_
        refine fin (Res.ic2 rfl) ?_
        refine ⟨_, (by repeat first | exact List.Sublist.refl _ | apply List.Sublist.cons), PzR.zero (pa_2 k1 (by omega) (by rw [← ho7]; simpa using h3)), rfl⟩
end Go.Proofs.YtieaiheejhmbfaaGreatDoor.ML
/- The chapter's examples, evaluated. No conditions. -/
namespace Go.Proofs.YtieaiheejhmbfaaGreatDoor.ML
open Go.RowKit
set_option linter.unusedVariables false
set_option linter.unusedSimpArgs false
set_option maxRecDepth 10000
theorem aw_ok0 : OkD ⟨sBool, [⟨sFalse, []⟩, ⟨sTrue, []⟩]⟩ := ⟨by decide +kernel, by decide, by decide +kernel⟩
theorem aw_ok1 : OkD ⟨sList, [⟨sNil, []⟩, ⟨sCons, [0, 2]⟩]⟩ := ⟨by decide +kernel, by decide, by decide +kernel⟩
theorem aw_formed : FormedP listsD := ⟨by decide, rfl, by decide, rfl, rfl, rfl, fun i h => match i, h with
  | 0, _ => aw_ok0
  | 1, _ => aw_ok1
  | n + 2, h => absurd h (by simp [listsD])⟩
theorem aw_twice : ¬ TwiceP listsD := fun h => h ⟨by decide +kernel, by decide +kernel⟩
theorem aw_typed : TypedP listsD := by unfold TypedP; decide +kernel
theorem aw_fin : FinP listsD := fun i h => match i, h with
  | 0, _ => .data 0 (by decide) 0 (by decide) (fun f hf => by cases hf)
  | 1, _ => .data 1 (by decide) 0 (by decide) (fun f hf => by cases hf)
  | n + 2, h => absurd h (by simp [listsD])
theorem aw_check : checkF listsD = 0 := by
  unfold checkF
  rw [show manyF listsD = false by decide +kernel, if_neg (by decide), tt_true aw_formed, if_pos rfl, tt_false aw_twice, if_neg (by decide), tt_true aw_typed, if_pos rfl, tt_true aw_fin, if_pos rfl]
theorem aw_table : tableF listsD 2 = 0 := by
  unfold tableF
  rw [aw_check, if_neg (by decide), if_neg (by decide)]
abbrev awV : VT := ⟨0, 1, [⟨-1, 0, []⟩, ⟨0, 0, []⟩]⟩
abbrev awS : ByteArray := ⟨#[32, 67, 111, 110, 115, 40, 45, 49, 41, 78, 105, 108]⟩
abbrev awT : ByteArray := ⟨#[67, 111, 110, 115, 32, 40, 45, 49, 41, 32, 78, 105, 108]⟩
abbrev awN : ByteArray := ⟨#[78, 111, 100, 101]⟩
def eqTT : TT → TT → Bool
  | .mk a b l, .mk a' b' l' => decide (a = a') && decide (b = b') && (l.length == l'.length)
theorem aw_term : termF awS (awS.size + 1) 0 = (some ⟨sCons, 0, [⟨⟨#[]⟩, -1, []⟩, ⟨sNil, 0, []⟩]⟩, 12) := by rfl
theorem aw_term2 : termF awN (awN.size + 1) 0 = (some ⟨awN, 0, []⟩, 4) := by rfl
theorem aw_parse : parseF listsD 2 awS = (awV, 0) := by
  rw [pa_x aw_table (by decide) (show (termF awS (awS.size + 1) 0).1 = some _ by rw [aw_term])]
  rw [aw_term]
  rfl
theorem aw_parse2 : parseF listsD 2 awN = (⟨0, 0, []⟩, 9) := by
  rw [pa_x aw_table (by decide) (show (termF awN (awN.size + 1) 0).1 = some _ by rw [aw_term2])]
  rw [aw_term2]
  rfl
theorem aw_cells : cellsF listsD 2 awV = (1, 0) := by
  unfold cellsF
  rw [aw_table, if_neg (by decide)]
  rfl
theorem aw_text : textF listsD 2 awV = (awT, 0) := by
  unfold textF
  rw [aw_cells, if_neg (by decide), show txV listsD 2 awV = awT by decide +kernel]
  rfl
theorem aw_of : ofF listsD 2 = [(2, 0), (2, 1)] := by
  unfold ofF
  rw [aw_check, if_pos (by decide)]
  rfl
theorem aw_counts : countsF listsD 2 awV = ([1, 1], 0) := by
  unfold countsF
  rw [aw_cells, if_neg (by decide), aw_of]
  rfl
theorem aw_rec : (reachF listsD 2).any (recF listsD) = true := by rfl
theorem aw_lim : limF listsD 2 1 = 1 := by
  unfold limF
  rw [aw_rec]; rfl
theorem aw_all : allV listsD 2 1 = exV listsD 2 0 ++ exV listsD 2 1 := by
  unfold allV
  rw [aw_table, if_neg (by decide), aw_lim]
  rfl
def cntF (n : Int) (v : VT) : Int × Bool := (IntKind.i64.wrap (n + 1), true)
theorem aw_sf : sf cntF 0 (allV listsD 2 1) = (3, true) := by rw [aw_all]; rfl
theorem aw_rg : RgV awV := .mk (by decide) (by decide) fun x hx => by
  simp only [List.mem_cons, List.not_mem_nil, or_false] at hx
  rcases hx with rfl | rfl
  · exact .mk (by decide) (by decide) (fun _ h => by cases h)
  · exact .mk (by decide) (by decide) (fun _ h => by cases h)
theorem aw_size : (txV listsD 2 awV).size ≤ 1000000000 := by rw [show txV listsD 2 awV = awT by decide +kernel]; decide
section
variable {P : Program} {tm : Tm} {M : Mem} {H : Heap} {gd : Option (Nat × Bool)} {ty : TypeId} {pos : String} {aft : Array Edge} {x y : Operand} {T T' : TypeId} {dd : Option Tmp} {k : IntKind} {a b : Int} {s t : ByteArray}
theorem V.eqsT (h : s = t) [hx : Ev tm x (.string s)] [hy : Ev tm y (.string t)] : PVM P ⟨dd, .binOp .eql T x y T', ty, pos, aft, gd⟩ tm M (.bool true) := by have := PV.eqs (P := P) (M := M) (d := dd) (ty := ty) (pos := pos) (aft := aft) (gd := gd) (T := T) (T' := T') hx.out hy.out; rwa [decide_eq_true h] at this
theorem V.eqlT (h : a = b) [hx : Ev tm x (.int k a)] [hy : Ev tm y (.int k b)] : PVM P ⟨dd, .binOp .eql T x y T', ty, pos, aft, gd⟩ tm M (.bool true) := by have := PV.eql (P := P) (M := M) (d := dd) (ty := ty) (pos := pos) (aft := aft) (gd := gd) (T := T) (T' := T') hx.out hy.out; rwa [decide_eq_true h] at this
def isFy : Option TypeDesc → Bool | some (.func _ _ _) => true | _ => false
class Fy (P : Program) (T : TypeId) : Prop where o1 : isFy (P.underlying T) = true
theorem V.eqf0 {f : Go.Fn} {u v : Array Value} [hT : Fy P T] [hx : Ev tm x (.func f u v)] [hy : Ev tm y .nilFunc] : PVM P ⟨dd, .binOp .eql T x y T', ty, pos, aft, gd⟩ tm M (.bool false) :=
  .mk rfl (fun w => by
    obtain ⟨p, r, vr, hu⟩ : ∃ p r vr, P.underlying T = some (.func p r vr) := by
      have := hT.o1
      cases hu : P.underlying T with
      | none => rw [hu] at this; cases this
      | some d => rw [hu] at this; cases d <;> first | exact ⟨_, _, _, rfl⟩ | cases this
    have h : ∀ d : Nat, (Op.equalIn (d + 1) T (.func f u v) .nilFunc).run P w = .ok false w := fun d => by simp [Op.equalIn, run_underlying hu]
    have hg : (eqGuard .eql T x y (.func f u v) .nilFunc) = (Pure.pure () : Sem Unit) := rfl
    simp only [execOp, hx.out, hy.out, hg]
    refine run_v ?_
    simp only [binOp]
    simp [Op.equal, Op.maxDepth, h 9999])
instance : Fy Tryz.prog 54 := ⟨by kernel_rfl⟩
end
end Go.Proofs.YtieaiheejhmbfaaGreatDoor.ML
/- Walks of functions of the program, in the abstract layer. No conditions. -/
namespace Go.Proofs.YtieaiheejhmbfaaGreatDoor.ML
open Go.RowKit
set_option linter.unusedVariables false
set_option linter.unusedSimpArgs false
set_option maxHeartbeats 1600000 in
set_option synthInstance.maxHeartbeats 400000 in
set_option synthInstance.maxSize 100000 in
set_option maxRecDepth 100000 in
theorem awake_c (M : Mem) (H : Heap) (hGM : GM M) :
    AC Tryz.prog 12 [] M H fun r _ H' => r = .bool true ∧ H' = H := by
  refine AC.ofM (n := 98) Tryz.func12 rfl rfl ?_
  dsimp only [List.replicate, List.cons_append, List.nil_append]
  refine AW.seq ?_
  refine AW.region ?_
  refine st V.assign ?_
  refine sn ?_
  refine AW.seq ?_
  refine AW.region ?_
  refine se (S.call ?_)
  refine (lists_c _ _).use ?_
  rintro v1 N1 G1 iz1 ⟨A1, c1, rfl, hd, hG⟩
  obtain rfl := hG.symm
  refine st V.assign ?_
  refine sn ?_
  refine AW.seq ?_
  refine AW.region ?_
  refine st V.move ?_
  refine se (S.call ?_)
  refine (parse_c _ _ hGM.up A1 c1 listsD hd.upD 2 awS (by decide)).use ?_
  rintro v2 N2 G2 iz2 ⟨⟨Av, cv, rfl, hvv⟩, hG⟩
  obtain rfl := hG.symm
  rw [aw_parse] at hvv ⊢
  refine st V.move ?_
  refine st V.ext ?_
  refine st V.ext ?_
  refine se (S.alloc ?_); intro b2
  refine se (S.storeA rfl ?_)
  refine st V.assign ?_
  refine sn ?_
  refine AW.seq ?_
  refine AW.fz 0 fun M2' i2 j2 => ?_
  refine AW.region ?_
  refine st V.move ?_
  first | refine st V.ldA ?_ | refine sq V.loA ?_
  refine se (S.call ?_)
  refine (text_c _ _ hGM.up A1 c1 listsD hd.upD 2 Av cv awV (VV.up (x := awV) hvv) aw_rg (fun _ => aw_size)).use ?_
  rintro v3 N3 G3 iz3 ⟨rfl, hG⟩
  obtain rfl := hG.symm
  rw [aw_text]
  refine st V.move ?_
  refine st V.ext ?_
  refine st V.ext ?_
  refine st V.assign ?_
  refine st V.assign ?_
  refine sn ?_
  refine AW.seq ?_
  refine AW.region ?_
  refine st V.move ?_
  first | refine st V.ldA ?_ | refine sq V.loA ?_
  refine se (S.call ?_)
  refine (cells_c _ _ A1 c1 listsD hd.upD 2 Av cv awV (VV.up (x := awV) hvv)).use ?_
  rintro v4 N4 G4 iz4 ⟨rfl, hG⟩
  obtain rfl := hG.symm
  rw [aw_cells]
  refine st V.move ?_
  refine st V.ext ?_
  refine st V.ext ?_
  refine st V.assign ?_
  refine st V.assign ?_
  refine sn ?_
  refine AW.seq ?_
  refine AW.region ?_
  refine st V.move ?_
  first | refine st V.ldA ?_ | refine sq V.loA ?_
  refine se (S.call ?_)
  refine (counts_c _ _ A1 c1 listsD hd.upD 2 Av cv awV (VV.up (x := awV) hvv)).use ?_
  rintro v5 N5 G5 iz5 ⟨A5, c5, rfl, hr5, hG⟩
  obtain rfl := hG.symm
  rw [aw_counts] at hr5 ⊢
  obtain ⟨b5, o5, hA5, e5⟩ := hr5.at 0 (by decide)
  obtain ⟨b6, o6, hA6, e6⟩ := hr5.at 1 (by decide)
  have e5 : Mk N5 b5 (o5 + 0 * 1) (.int .i64 1) := e5
  have e6 : Mk N5 b6 (o6 + 1 * 1) (.int .i64 1) := e6
  refine st V.move ?_
  refine st V.ext ?_
  refine st V.ext ?_
  refine st V.assign ?_
  refine st V.assign ?_
  refine sn ?_
  refine AW.seq ?_
  refine AW.region ?_
  refine st V.move ?_
  refine se (S.call ?_)
  refine (parse_c _ _ hGM.up A1 c1 listsD hd.upD 2 awN (by decide)).use ?_
  rintro v6 N6 G6 iz6 ⟨⟨Aw, cw, rfl, hww⟩, hG⟩
  obtain rfl := hG.symm
  rw [aw_parse2] at hww ⊢
  refine st V.move ?_
  refine st V.ext ?_
  refine st V.ext ?_
  refine se (S.alloc ?_); intro b10
  refine se (S.storeA rfl ?_)
  refine st V.assign ?_
  refine sn ?_
  refine AW.seq ?_
  refine AW.fz 0 fun M3' i3 j3 => ?_
  refine AW.region ?_
  refine se (S.alloc ?_); intro b12
  refine se (S.store ?_)
  refine sn ?_
  refine AW.seq ?_
  refine AW.region ?_
  refine st V.move ?_
  refine se (S.call ?_)
  refine (all_c _ _ A1 c1 listsD.length 2 1).use ?_
  rintro v8 N8 G8 iz8 ⟨q1, q2, q3, rfl, m1, m2, m3, hG⟩
  obtain rfl := hG.symm
  refine st V.assign ?_
  refine sn ?_
  refine AW.seq ?_
  refine AW.seq ?_
  refine AW.region ?_
  refine st V.move ?_
  refine st (V.eqf0) ?_
  refine sn ?_
  refine cond (fun h => by cases h) (fun _ => ?_)
  refine AW.skip ?_
  refine AW.seq ?_
  refine AW.seq ?_
  refine AW.region ?_
  refine st V.move ?_
  refine sn ?_
  refine AW.block ?_
  refine AW.rangeF (f := 56) (fst := #[]) (cap := #[.pointer (some ⟨q1, 0, none⟩), .pointer (some ⟨q2, 0, none⟩), .pointer (some ⟨q3, 0, none⟩)]) Ev.out ?_
  intro l r Mr iR hrt hrs hrn hrp hra hrb
  have hrr : ({ r with state := .ready, pending := none } : Loop) = r := by cases r; simp only at hrs hrn; subst hrs; subst hrn; rfl
  have LM : LeT N8 Mr := inferInstance
  have cb : CbV Tryz.prog Mr (.func (.yield l) #[] #[]) (fun (_ : Bool) (n : Int) => .blk l (.loop { r with state := .ready, pending := none }) :: .blk b12 (.cells #[.int .i64 n] 3 (0, 0)) :: H) cntF := by
    intro M2 q n v Av cv hvb hvv
    refine AV.heqI (H' := .blk l (.loop r) :: .blk b12 (.cells #[.int .i64 n] 3 (0, 0)) :: H) (by simp [hrr]) ?_
    refine AV.yield hrt hrs (by rw [hrp]; rfl) ?_
    rw [hra, hrb, hrp]
    refine sy ?_
    refine AW.skip ?_
    refine apost_in ?_
    refine AW.block ?_
    refine AW.region ?_
    first | refine st V.ld ?_ | refine sq V.lo ?_
    refine st (V.add) ?_
    refine se (S.store ?_)
    refine sn ?_
    repeat with_reducible refine inb_normal ?_
    refine rpost_n ?_
    refine ⟨rfl, ?_⟩
    simp [cntF, hra, hrb, hrp]
  refine AC.heqI (H' := .blk l (.loop { r with state := .ready, pending := none }) :: .blk b12 (.cells #[.int .i64 0] 3 (0, 0)) :: H) (by simp [hrr]) ?_
  refine (all1_c (fun (_ : Bool) (n : Int) => .blk l (.loop { r with state := .ready, pending := none }) :: .blk b12 (.cells #[.int .i64 n] 3 (0, 0)) :: H) cntF (.func (.yield l) #[] #[]) listsD 2 1 (by decide) 0 Mr A1 c1 q1 q2 q3 hd.upD inferInstance inferInstance inferInstance cb).use ?_
  rintro vz Nz Gz izz ⟨rfl, hG⟩
  rw [aw_sf] at hG
  subst hG
  ·
    refine rangeQ_n ?_
    refine AW.seq ?_
    refine AW.region ?_
    refine st V.move ?_
    refine st (V.eqlT rfl) ?_
    refine st V.move ?_
    refine on rfl rfl ?_
    refine st V.move ?_
    refine on rfl rfl ?_
    refine st (V.eqlT rfl) ?_
    refine st (V.pT rfl) ?_
    refine st V.move ?_
    refine on rfl rfl ?_
    refine st V.move ?_
    refine on rfl rfl ?_
    refine st (V.eqsT rfl) ?_
    refine st (V.pT rfl) ?_
    refine st V.move ?_
    refine on rfl rfl ?_
    refine st V.move ?_
    refine on rfl rfl ?_
    refine st (V.eqlT rfl) ?_
    refine st (V.pT rfl) ?_
    refine st V.move ?_
    refine on rfl rfl ?_
    refine st V.move ?_
    refine on rfl rfl ?_
    refine st (V.eqlT rfl) ?_
    refine st (V.pT rfl) ?_
    refine st V.move ?_
    refine on rfl rfl ?_
    refine st V.move ?_
    refine on rfl rfl ?_
    refine st (V.eqlT rfl) ?_
    refine st (V.pT rfl) ?_
    refine st V.move ?_
    refine on rfl rfl ?_
    refine st V.move ?_
    refine on rfl rfl ?_
    refine st V.len ?_
    refine on rfl rfl ?_
    refine st (V.eqlT rfl) ?_
    refine st (V.pT rfl) ?_
    refine st V.move ?_
    refine on rfl rfl ?_
    refine st V.move ?_
    refine on rfl rfl ?_
    refine st (V.ib 0 rfl (by decide) hA5) ?_
    refine on rfl rfl ?_
    first | refine st V.ld ?_ | refine sq V.lo ?_
    refine on rfl rfl ?_
    refine st (V.eqlT rfl) ?_
    refine st (V.pT rfl) ?_
    refine st V.move ?_
    refine on rfl rfl ?_
    refine st V.move ?_
    refine on rfl rfl ?_
    refine st (V.ib 1 rfl (by decide) hA6) ?_
    refine on rfl rfl ?_
    first | refine st V.ld ?_ | refine sq V.lo ?_
    refine on rfl rfl ?_
    refine st (V.eqlT rfl) ?_
    refine st (V.pT rfl) ?_
    refine st V.move ?_
    refine on rfl rfl ?_
    refine st V.move ?_
    refine on rfl rfl ?_
    refine st (V.eqlT rfl) ?_
    refine st (V.pT rfl) ?_
    refine st V.move ?_
    refine on rfl rfl ?_
    first | refine st V.ld ?_ | refine sq V.lo ?_
    refine on rfl rfl ?_
    refine st (V.eqlT rfl) ?_
    refine st (V.pT rfl) ?_
    refine st V.assign ?_
    refine sn ?_
    refine AW.ret ?_
    repeat with_reducible first | refine thn_ret ?_ | refine inb_ret ?_
    refine finM (fun _ => Res.i1 rfl) ?_
    refine ⟨_, (by repeat first | exact List.Sublist.refl _ | apply List.Sublist.cons), fun _ => ⟨rfl, rfl⟩⟩
end Go.Proofs.YtieaiheejhmbfaaGreatDoor.ML
