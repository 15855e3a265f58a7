/- The plain laws of the reference's terms: they are those of the program. No conditions. -/
import Derived.Test.YtieaiheejhmbfaaGreatDoorPk34
import Derived.Test.YtieaiheejhmbfaaGreatDoorPk2
namespace Go.Proofs.YtieaiheejhmbfaaGreatDoor.ML
open Go.RowKit
set_option linter.unusedVariables false
set_option linter.unusedSimpArgs false
mutual
/-- The reference's term, if it is not bad: the term and the place behind it. -/
def rtF (s : ByteArray) : Nat → Nat → Option (TT × Nat)
  | 0, _ => none
  | n + 1, a => match wordF s (skO spP s a) with
    | none => none
    | some t => if t.name = ⟨#[]⟩ then some (t, wE s (skO spP s a)) else rlF s n t.name t.num [] (wE s (skO spP s a))
def rlF (s : ByteArray) : Nat → ByteArray → Int → List TT → Nat → Option (TT × Nat)
  | 0, _, _, _, _ => none
  | n + 1, nm, nu, l, a =>
    if s.size ≤ skO spP s a ∨ byt s (skO spP s a : Nat) = 41 then some (⟨nm, nu, l⟩, skO spP s a)
    else if byt s (skO spP s a : Nat) = 40 then match rtF s n (skO spP s a + 1) with
      | none => none
      | some (t, e) => if s.size ≤ skO spP s e ∨ byt s (skO spP s e : Nat) ≠ 41 then none else rlF s n nm nu (l ++ [t]) (skO spP s e + 1)
    else match wordF s (skO spP s a) with
      | none => none
      | some t => rlF s n nm nu (l ++ [t]) (wE s (skO spP s a))
end
theorem skO_idem (s : ByteArray) (a : Nat) (h : a ≤ s.size) : skO spP s (skO spP s a) = skO spP s a := by
  obtain ⟨m, hm⟩ : ∃ m, m = s.size - a := ⟨_, rfl⟩
  induction m generalizing a with
  | zero =>
    have e : skO spP s a = a := by rw [skO_eq, if_neg (fun hh => by omega)]
    rw [e, e]
  | succ m ih =>
    rw [skO_eq spP s a]
    split
    · exact ih (a + 1) (by omega) (by omega)
    · rename_i hn; rw [skO_eq, if_neg hn]
theorem en_of {s : ByteArray} {q : Nat} (hq : q ≤ s.size) (h : s.size ≤ q ∨ byt s (q : Nat) = 41) : En s q := by rcases h with h | h; exact .inl (by omega); exact .inr h
theorem nx_40 {s : ByteArray} {q : Nat} (h : byt s (q : Nat) = 40) : nxB s q = 40 := by rw [nxB_at (by rw [h]; decide), h]
theorem nx_41 {s : ByteArray} {q : Nat} (h : byt s (q : Nat) = 41) : nxB s q = 41 := by rw [nxB_at (by rw [h]; decide), h]
theorem word_nz {s : ByteArray} {q : Nat} {t : TT} (hq : q ≤ s.size) (h : wordF s q = some t) : byt s (q : Nat) ≠ 0 := fun h0 => by
  have h1 := (wordF_some hq h).1
  have : wE s q = q := by
    unfold wE
    rw [if_neg (fun hh => by omega), skO_eq, if_neg (fun hh => by rw [h0] at hh; exact absurd hh.2 (by decide))]
  omega
theorem rt_tm (s : ByteArray) : ∀ n : Nat, (∀ a t e, a ≤ s.size → s.size - a < n → rtF s n a = some (t, e) → e ≤ s.size ∧ (En s (skO spP s e) → termF s n a = (some t, skO spP s e))) ∧
    (∀ nm nu l a t e, nm ≠ ⟨#[]⟩ → a ≤ s.size → s.size - a < n → rlF s n nm nu l a = some (t, e) → e ≤ s.size ∧ En s e ∧ loopF s n nm nu l a = (some t, e))
  | 0 => ⟨fun a t e _ hn _ => by omega, fun nm nu l a t e _ _ hn _ => by omega⟩
  | n + 1 => by
    obtain ⟨ih1, ih2⟩ := rt_tm s n
    refine ⟨fun a t e ha hn h => ?_, fun nm nu l a t e hnm ha hn h => ?_⟩
    · have hsp := skO_le spP s a ha
      rw [rtF] at h
      cases hw : wordF s (skO spP s a) with
      | none => rw [hw] at h; cases h
      | some w =>
        rw [hw] at h
        dsimp only at h
        have hws := wordF_some hsp.2 hw
        have hwe := wE_le s _ hsp.2
        by_cases h0 : w.name = ⟨#[]⟩
        · rw [if_pos h0] at h
          simp only [Option.some.injEq, Prod.mk.injEq] at h
          obtain ⟨q1, q2⟩ := h
          rw [← q1, ← q2]
          refine ⟨hwe.2, fun he => ?_⟩
          obtain ⟨m, rfl⟩ : ∃ m, n = m + 1 := ⟨n - 1, by omega⟩
          have hww : w = ⟨⟨#[]⟩, w.num, []⟩ := by
            have h1 := hws.2
            cases w with
            | mk a b c => simp only [TT.name, TT.args] at h0 h1; subst h0 h1; rfl
          rw [tm_1 hw, lp_done he.done.2, h0, ← hww]
        · rw [if_neg h0] at h
          obtain ⟨h1, h2, h3⟩ := ih2 _ _ _ _ _ _ h0 hwe.2 (by omega) h
          exact ⟨h1, fun _ => by rw [tm_1 hw, h3, h2.done.1]⟩
    · have hsp := skO_le spP s a ha
      rw [rlF] at h
      by_cases hq : s.size ≤ skO spP s a ∨ byt s (skO spP s a : Nat) = 41
      · rw [if_pos hq] at h
        cases h
        have he := en_of hsp.2 hq
        exact ⟨hsp.2, he, by rw [lp_done he.done.2]⟩
      · rw [if_neg hq] at h
        by_cases h40 : byt s (skO spP s a : Nat) = 40
        · rw [if_pos h40] at h
          have hnx := nx_40 h40
          cases hr : rtF s n (skO spP s a + 1) with
          | none => rw [hr] at h; cases h
          | some p =>
            obtain ⟨t1, e1⟩ := p
            rw [hr] at h
            dsimp only at h
            split at h
            · cases h
            · rename_i hc
              have hlt : skO spP s a < s.size := by omega
              obtain ⟨g1, g2⟩ := ih1 (skO spP s a + 1) t1 e1 (by omega) (by omega) hr
              have h41 : byt s (skO spP s e1 : Nat) = 41 := Classical.byContradiction fun hh => hc (.inr hh)
              have hen : En s (skO spP s e1) := .inr h41
              have ht := g2 hen
              have hle := ((term_le s n).1 (skO spP s a + 1) (by omega))
              rw [ht] at hle
              obtain ⟨k1, k2, k3⟩ := ih2 _ _ _ _ _ _ hnm (by omega) (by omega) h
              refine ⟨k1, k2, ?_⟩
              rw [lp_t2 (t := t1) (by rw [hnx]; decide) hnm hnx (by rw [ht]) (by rw [ht]; dsimp only; rw [hen.done.1, nx_41 h41]), ht]
              dsimp only
              rw [hen.done.1]
              exact k3
        · rw [if_neg h40] at h
          cases hw : wordF s (skO spP s a) with
          | none => rw [hw] at h; cases h
          | some w =>
            rw [hw] at h
            dsimp only at h
            have hws := wordF_some hsp.2 hw
            have hwe := wE_le s _ hsp.2
            have hnz := word_nz hsp.2 hw
            obtain ⟨k1, k2, k3⟩ := ih2 _ _ _ _ _ _ hnm hwe.2 (by omega) h
            refine ⟨k1, k2, ?_⟩
            have hnx := nxB_at hnz
            rw [lp_w1 (t := w) (by rw [hnx]; exact fun hh => hh.elim hnz (fun h => hq (.inr h))) hnm (by rw [hnx]; exact h40) hw]
            exact k3
theorem rtF_ge (s : ByteArray) (n a : Nat) (t : TT) (e : Nat) (ha : a ≤ s.size) (h : rtF s n a = some (t, e)) : a ≤ e := by
  have key : ∀ n, (∀ a t e, a ≤ s.size → rtF s n a = some (t, e) → a ≤ e ∧ e ≤ s.size) ∧ (∀ nm nu l a t e, a ≤ s.size → rlF s n nm nu l a = some (t, e) → a ≤ e ∧ e ≤ s.size) := by
    intro n
    induction n with
    | zero => exact ⟨(fun a t e _ h => by rw [rtF] at h; cases h), (fun nm nu l a t e _ h => by rw [rlF] at h; cases h)⟩
    | succ n ih =>
      obtain ⟨ih1, ih2⟩ := ih
      refine ⟨fun a t e ha h => ?_, fun nm nu l a t e ha h => ?_⟩
      · have hsp := skO_le spP s a ha
        have hwe := wE_le s _ hsp.2
        rw [rtF] at h
        cases hw : wordF s (skO spP s a) with
        | none => rw [hw] at h; cases h
        | some w =>
          rw [hw] at h
          dsimp only at h
          split at h
          · cases h; omega
          · have := ih2 _ _ _ _ _ _ hwe.2 h; omega
      · have hsp := skO_le spP s a ha
        have hwe := wE_le s _ hsp.2
        rw [rlF] at h
        split at h
        · cases h; omega
        · rename_i hq
          split at h
          · cases hr : rtF s n (skO spP s a + 1) with
            | none => rw [hr] at h; cases h
            | some p =>
              obtain ⟨t1, e1⟩ := p
              rw [hr] at h
              dsimp only at h
              split at h
              · cases h
              · rename_i hc
                have h1 := ih1 _ _ _ (by omega) hr
                have h2 := skO_le spP s e1 h1.2
                have := ih2 _ _ _ _ _ _ (by omega) h
                omega
          · cases hw : wordF s (skO spP s a) with
            | none => rw [hw] at h; cases h
            | some w =>
              rw [hw] at h
              dsimp only at h
              have := ih2 _ _ _ _ _ _ hwe.2 h
              omega
  exact ((key n).1 a t e ha h).1
theorem tm_rt (s : ByteArray) : ∀ n : Nat, (∀ a t e, a ≤ s.size → termF s n a = (some t, e) → (skO spP s e = e ∧ e ≤ s.size) ∧ (En s e → ∃ e1, rtF s n a = some (t, e1) ∧ skO spP s e1 = e)) ∧
    (∀ nm nu l a t e, a ≤ s.size → loopF s n nm nu l a = (some t, e) → (skO spP s e = e ∧ e ≤ s.size) ∧ (nm ≠ ⟨#[]⟩ → En s e → rlF s n nm nu l a = some (t, e)))
  | 0 => ⟨(fun a t e _ h => by rw [termF] at h; cases h), (fun nm nu l a t e _ h => by rw [loopF] at h; cases h)⟩
  | n + 1 => by
    obtain ⟨ih1, ih2⟩ := tm_rt s n
    refine ⟨fun a t e ha h => ?_, fun nm nu l a t e ha h => ?_⟩
    · have hsp := skO_le spP s a ha
      cases hw : wordF s (skO spP s a) with
      | none => rw [tm_0 (by rw [hw]; rfl)] at h; cases h
      | some w =>
        have hws := wordF_some hsp.2 hw
        have hwe := wE_le s _ hsp.2
        rw [tm_1 hw] at h
        obtain ⟨g1, g2⟩ := ih2 _ _ _ _ _ _ hwe.2 h
        refine ⟨g1, fun he => ?_⟩
        rw [rtF, hw]
        dsimp only
        by_cases h0 : w.name = ⟨#[]⟩
        · rw [if_pos h0]
          cases n with
          | zero => rw [loopF] at h; cases h
          | succ m =>
            by_cases hd : nxB s (skO spP s (wE s (skO spP s a))) = 0 ∨ nxB s (skO spP s (wE s (skO spP s a))) = 41
            · rw [lp_done hd, h0] at h
              cases h
              refine ⟨_, ?_, rfl⟩
              have : w = ⟨⟨#[]⟩, w.num, []⟩ := by
                have h1 := hws.2
                cases w with
                | mk a b c => simp only [TT.name, TT.args] at h0 h1; subst h0 h1; rfl
              rw [← this]
            · rw [lp_num hd h0] at h; cases h
        · rw [if_neg h0]
          exact ⟨e, g2 h0 he, g1.1⟩
    · have hsp := skO_le spP s a ha
      by_cases hd : nxB s (skO spP s a) = 0 ∨ nxB s (skO spP s a) = 41
      · rw [lp_done hd] at h
        cases h
        refine ⟨⟨skO_idem s a ha, hsp.2⟩, fun _ he => ?_⟩
        rw [rlF, if_pos (by rcases he with he | he; exact .inl (by omega); exact .inr he)]
      · by_cases h0 : nm = ⟨#[]⟩
        · rw [lp_num hd h0] at h; cases h
        · have hlt : skO spP s a < s.size := nx_lt (fun hh => hd (.inl hh))
          have hnx : nxB s (skO spP s a) = byt s (skO spP s a : Nat) := by unfold nxB; rw [if_pos hlt]
          have hq : ¬ (s.size ≤ skO spP s a ∨ byt s (skO spP s a : Nat) = 41) := fun hh => by
            rcases hh with hh | hh
            · omega
            · exact hd (.inr (by rw [hnx]; exact hh))
          by_cases h40 : nxB s (skO spP s a) = 40
          · cases ht : termF s n (skO spP s a + 1) with
            | mk o b =>
              cases o with
              | none => rw [lp_t0 hd h0 h40 (by rw [ht]; rfl)] at h; cases h
              | some t1 =>
                obtain ⟨g1, g2⟩ := ih1 (skO spP s a + 1) t1 b (by omega) ht
                by_cases h41 : nxB s (skO spP s b) = 41
                · rw [lp_t2 hd h0 h40 (by rw [ht]) (by rw [ht]; exact h41), ht] at h
                  dsimp only at h
                  rw [g1.1] at h h41
                  have hltb : b < s.size := nx_lt (by rw [h41]; decide)
                  have hb41 : byt s (b : Nat) = 41 := by have : nxB s b = byt s (b : Nat) := by unfold nxB; rw [if_pos hltb]
                                                         rw [← this]; exact h41
                  obtain ⟨k1, k2⟩ := ih2 _ _ _ _ _ _ (by omega) h
                  refine ⟨k1, fun _ he => ?_⟩
                  obtain ⟨e1, j1, j2⟩ := g2 (.inr hb41)
                  rw [rlF, if_neg hq, if_pos (by rw [← hnx]; exact h40), j1]
                  dsimp only
                  rw [j2, if_neg (fun hh => hh.elim (fun h => by omega) (fun h => h hb41))]
                  exact k2 h0 he
                · rw [lp_t1 hd h0 h40 (by rw [ht]) (by rw [ht]; exact h41)] at h; cases h
          · cases hw : wordF s (skO spP s a) with
            | none => rw [lp_w0 hd h0 h40 (by rw [hw]; rfl)] at h; cases h
            | some w =>
              rw [lp_w1 hd h0 h40 hw] at h
              obtain ⟨k1, k2⟩ := ih2 _ _ _ _ _ _ (wE_le s _ hsp.2).2 h
              refine ⟨k1, fun _ he => ?_⟩
              rw [rlF, if_neg hq, if_neg (by rw [← hnx]; exact h40), hw]
              exact k2 h0 he
end Go.Proofs.YtieaiheejhmbfaaGreatDoor.ML
/- Walks of functions of the program, in the abstract layer. No conditions. -/
namespace Go.Proofs.YtieaiheejhmbfaaGreatDoor.ML
open Go.RowKit
set_option linter.unusedVariables false
set_option linter.unusedSimpArgs false
set_option maxHeartbeats 1600000 in
set_option synthInstance.maxHeartbeats 400000 in
set_option synthInstance.maxSize 100000 in
set_option maxRecDepth 100000 in
theorem r_term_c (s : ByteArray) (hs : s.size ≤ 1000000) (b : Nat) : ∀ (z n : Nat), n < z → ∀ (a : Nat), a ≤ s.size → s.size - a < n → ∀ (M : Mem) (H : Heap),
    AC Tryz.prog 51 [.pointer (some ⟨b, 0, none⟩)] M (.blk b (.cells #[.string s, .int .i64 (a : Nat), .bool false] 106 (0, 0)) :: H) fun r M' H' => ∃ (t0 : TT) (A : Option Addr) (c pos : Nat) (bad : Bool), r = .agg #[.string t0.name, .int .i64 t0.num, .slice A t0.args.length c] ∧ H' = .blk b (.cells #[.string s, .int .i64 (pos : Nat), .bool bad] 106 (0, 0)) :: H ∧ VVT M' A c t0 ∧ pos ≤ s.size ∧ bad = (rtF s n a).isNone ∧ ∀ t e, rtF s n a = some (t, e) → pos = e ∧ t = t0
  | 0, n, hz => by omega
  | z + 1, 0, hz => by intro a ha hn; omega
  | z + 1, n + 1, hz => by
    intro a ha hn M H
    have hsp := skO_le spP s a ha
    have hwe := wE_le s _ hsp.2
    refine AC.of (n := 110) Tryz.func51 rfl rfl ?_
    dsimp only [List.replicate, List.cons_append, List.nil_append]
    refine AW.seq ?_
    refine AW.region ?_
    refine se (S.alloc ?_); intro b2
    refine sn ?_
    refine AW.seq ?_
    refine AW.front 1 ?_
    refine AW.region ?_
    refine st V.move ?_
    refine se (S.call ?_)
    refine (r_spaces_c _ _ b s hs (false) (a) (by omega)).use ?_
    rintro v1 N1 G1 iz1 ⟨rfl, hG⟩
    obtain rfl := hG
    refine sn ?_
    refine AW.seq ?_
    refine AW.region ?_
    refine st V.move ?_
    refine se (S.call ?_)
    refine (r_word_c _ _ b s hs (skO spP s a) (by omega)).use ?_
    rintro v2 N2 G2 iz2 ⟨⟨nm2, nu2, rfl, hw2⟩, hG⟩
    obtain rfl := hG
    refine se (S.alloc ?_); intro b3
    refine se (S.storeA rfl ?_)
    refine sn ?_
    refine AW.seq ?_
    refine AW.seq ?_
    refine AW.region ?_
    refine st V.fa0 ?_
    first | refine st V.ld ?_ | refine sq V.lo ?_
    refine st V.eqs ?_
    refine sn ?_
    refine cond (fun h1 => ?_) (fun h1 => ?_)
    ·
      have k1 := bp h1
      refine AW.seq ?_
      refine AW.region ?_
      first | refine st V.ldA ?_ | refine sq V.loA ?_
      refine se (S.storeA rfl ?_)
      refine sn ?_
      refine AW.ret ?_
      repeat with_reducible first | refine thn_ret ?_ | refine inb_ret ?_
      refine fin (Res.ic rfl) ?_
      have hr0 : (wordF s (skO spP s a)).isNone = (rtF s (n + 1) a).isNone ∧ ∀ t e, rtF s (n + 1) a = some (t, e) → wE s (skO spP s a) = e ∧ t = ⟨nm2, nu2, []⟩ := by
        rw [rtF]
        cases hq : wordF s (skO spP s a) with
        | none => exact ⟨rfl, fun t e h => by cases h⟩
        | some t =>
          obtain rfl := hw2 t hq
          dsimp only
          rw [if_pos (show (TT.mk nm2 nu2 []).name = (⟨#[]⟩ : ByteArray) from k1)]
          refine ⟨rfl, fun t e h => by cases h; exact ⟨rfl, rfl⟩⟩
      refine ⟨_, (List.Sublist.cons _ (List.Sublist.cons_cons _ (by repeat first | exact List.Sublist.refl _ | apply List.Sublist.cons))), ⟨nm2, nu2, []⟩, none, 0, wE s (skO spP s a), _, rfl, rfl, RdS.nil, hwe.2, hr0.1, hr0.2⟩
    ·
      have k1 := bp h1
      refine AW.skip ?_
      refine AW.seq ?_
      refine AW.block ?_
      have hs1 : (wordF s (skO spP s a)).isNone = true → rtF s (n + 1) a = none := fun h => by rw [rtF, Option.isNone_iff_eq_none.1 h]
      have hs2 : (wordF s (skO spP s a)).isNone = false → s.size - wE s (skO spP s a) < n ∧ n ≤ n ∧ ([] : List TT).length ≤ wE s (skO spP s a) ∧ rtF s (n + 1) a = rlF s n nm2 nu2 [] (wE s (skO spP s a)) := fun h => by
        cases hq : wordF s (skO spP s a) with
        | none => rw [hq] at h; cases h
        | some t => have := hw2 t hq; subst this; have h3 := (wordF_some hsp.2 hq).1; exact ⟨by omega, Nat.le_refl _, by simp, by rw [rtF, hq]; exact if_neg k1⟩
      refine AW.front 1 ?_
      refine AW.row0 109 3 ?_
      refine AW.front 1 ?_
      refine AW.loopL [] (4 :: 13 :: 14 :: 15 :: 16 :: 17 :: 18 :: 19 :: 20 :: 21 :: 22 :: 23 :: 24 :: 25 :: 26 :: 27 :: 28 :: 29 :: 30 :: 31 :: 32 :: 33 :: 34 :: 35 :: 36 :: 37 :: 38 :: 39 :: 40 :: 41 :: 42 :: 43 :: 44 :: 45 :: 46 :: 47 :: 48 :: 49 :: 50 :: 51 :: 52 :: 53 :: 54 :: 55 :: 56 :: 57 :: 58 :: 59 :: 60 :: 61 :: 62 :: 63 :: 64 :: 65 :: 66 :: 67 :: 68 :: 69 :: 70 :: 71 :: 72 :: 73 :: 74 :: 75 :: 76 :: 77 :: 78 :: 79 :: 80 :: 81 :: 82 :: 83 :: 84 :: 85 :: 86 :: 87 :: 88 :: 89 :: 90 :: 91 :: 92 :: 93 :: 94 :: 95 :: 96 :: 97 :: 98 :: 99 :: 100 :: 101 :: 102 :: 103 :: 104 :: 105 :: 106 :: 107 :: 108 :: 109 :: []) (fun m vs M' H' => ∃ (l : List TT) (a1 : Nat) (A : Option Addr) (c : Nat) (cs : List Value) (bd : Bool), vs = [] ∧ H' = .blk b (.cells #[.string s, .int .i64 (a1 : Nat), .bool bd] 106 (0, 0)) :: .row A l.length c 109 3 cs :: .blk b3 (.cells #[.string nm2, .int .i64 nu2, .slice A l.length c] 109 (0, 0)) :: .blk b2 (.cells #[.string ⟨#[]⟩, .int .i64 0, .slice none 0 0] 109 (0, 0)) :: H ∧ FlT M' cs l ∧ a1 ≤ s.size ∧ l.length ≤ s.size ∧ (bd = true → rtF s (n + 1) a = none) ∧ (bd = false → s.size - a1 < m ∧ m ≤ n ∧ l.length ≤ a1 ∧ rtF s (n + 1) a = rlF s m nm2 nu2 l a1)) (n) (⟨[], wE s (skO spP s a), none, 0, [], _, rfl, rfl, rfl, hwe.2, by simp, hs1, hs2⟩) ?_
      intro m Ml Hl iL  hI u4 u13 u14 u15 u16 u17 u18 u19 u20 u21 u22 u23 u24 u25 u26 u27 u28 u29 u30 u31 u32 u33 u34 u35 u36 u37 u38 u39 u40 u41 u42 u43 u44 u45 u46 u47 u48 u49 u50 u51 u52 u53 u54 u55 u56 u57 u58 u59 u60 u61 u62 u63 u64 u65 u66 u67 u68 u69 u70 u71 u72 u73 u74 u75 u76 u77 u78 u79 u80 u81 u82 u83 u84 u85 u86 u87 u88 u89 u90 u91 u92 u93 u94 u95 u96 u97 u98 u99 u100 u101 u102 u103 u104 u105 u106 u107 u108 u109
      obtain ⟨l, a1, A, c, cs, bd, hv, hH, hf, ha1, hll, hbt, hbf⟩ := hI
      subst hH
      have hsp1 := skO_le spP s a1 ha1
      have hwe1 := wE_le s _ hsp1.2
      refine sa ?_
      refine AW.seq ?_
      refine AW.seq ?_
      refine AW.region ?_
      refine st V.move ?_
      refine st (by first | exact V.nc | exact V.ncF) ?_
      refine st V.faz ?_
      first | refine st V.ld ?_ | refine sq V.lo ?_
      refine st V.not ?_
      refine sn ?_
      refine cond (fun h2 => ?_) (fun h2 => ?_)
      ·
        have k2 := bp h2
        refine AW.skip ?_
        refine AW.block ?_
        refine AW.seq ?_
        obtain rfl : bd = false := by simpa using h2
        obtain ⟨hm, hmn, hla, hw⟩ := hbf rfl
        obtain ⟨m, rfl⟩ : ∃ m', m = m' + 1 := ⟨m - 1, by omega⟩
        refine AW.region ?_
        refine st V.move ?_
        refine se (S.call ?_)
        refine (r_spaces_c _ _ b s hs (false) (a1) (by omega)).use ?_
        rintro v6 N6 G6 iz6 ⟨rfl, hG⟩
        obtain rfl := hG
        refine sn ?_
        refine AW.seq ?_
        refine AW.seq ?_
        refine AW.regionD mx false [0, 1, 2, 3, 4, 5, 6, 7, 8, 9, 10, 11, 12, 13, 14, 15, 16, 17, 18, 19, 20, 21] [[], [0], [0, 1], [0, 1, 2], [], [4], [4, 5], [4, 5, 6], [4, 5, 6, 7], [0, 1, 2, 3, 4, 5, 6, 7, 8], [0, 1, 2, 3, 4, 5, 6, 7, 8, 9], [0, 1, 2, 3, 4, 5, 6, 7, 8, 9, 10], [0, 1, 2, 3, 4, 5, 6, 7, 8, 9, 10, 11], [0, 1, 2, 3, 4, 5, 6, 7, 8, 9, 10, 11, 12], [0, 1, 2, 3, 4, 5, 6, 7, 8, 9, 10, 11, 12, 13], [0, 1, 2, 3, 4, 5, 6, 7, 8, 9, 10], [0, 1, 2, 3, 4, 5, 6, 7, 8, 9, 10, 15], [0, 1, 2, 3, 4, 5, 6, 7, 8, 9, 10, 15, 16], [0, 1, 2, 3, 4, 5, 6, 7, 8, 9, 10, 15, 16, 17], [0, 1, 2, 3, 4, 5, 6, 7, 8, 9, 10, 11, 12, 13, 14, 15, 16, 17, 18], [0, 1, 2, 3, 4, 5, 6, 7, 8, 9, 10, 11, 12, 13, 14, 15, 16, 17, 18, 19], [0, 1, 2, 3, 4, 5, 6, 7, 8, 9, 10, 11, 12, 13, 14, 15, 16, 17, 18, 19, 20]] (by kernel_rfl) ?_
        refine D.p rfl rfl V.move ?_
        refine D.p rfl rfl (by first | exact V.nc | exact V.ncF) ?_
        refine D.p rfl rfl V.faz ?_
        first | refine D.p rfl rfl V.ld ?_ | refine D.q rfl rfl V.lo ?_
        refine D.p rfl rfl V.move ?_
        refine D.p rfl rfl (by first | exact V.nc | exact V.ncF) ?_
        refine D.p rfl rfl V.fa0 ?_
        first | refine D.p rfl rfl V.ld ?_ | refine D.q rfl rfl V.lo ?_
        refine D.p rfl rfl V.lenS ?_
        refine D.p rfl rfl V.geq ?_
        refine D.p rfl rfl V.move ?_
        refine D.onoff false true rfl 30 (fun h3 => ?_) (fun h3 => ?_)
        ·
          have k3 := bp h3
          refine D.pOn rfl rfl h3 rfl V.move ?_
          refine D.pOn rfl rfl h3 rfl (by first | exact V.nc | exact V.ncF) ?_
          refine D.pOn rfl rfl h3 rfl V.fa0 ?_
          first | refine D.pOn rfl rfl h3 rfl V.ld ?_ | refine D.qOn rfl rfl h3 rfl V.lo ?_
          refine D.pOn rfl rfl h3 rfl V.move ?_
          refine D.pOn rfl rfl h3 rfl (by first | exact V.nc | exact V.ncF) ?_
          refine D.pOn rfl rfl h3 rfl V.faz ?_
          first | refine D.pOn rfl rfl h3 rfl V.ld ?_ | refine D.qOn rfl rfl h3 rfl V.lo ?_
          refine D.pOn rfl rfl h3 rfl (V.idx (by omega) (by omega)) ?_
          refine D.pOn rfl rfl h3 rfl V.eql ?_
          refine D.p rfl rfl (V.pF h3) ?_
          refine D.nl ?_
          refine cond (fun h4 => ?_) (fun h4 => ?_)
          ·
            have k4 := bp h4
            refine AW.seq ?_
            refine AW.kp 1 fun Mk ik hk => ?_
            refine AW.region ?_
            first | refine st V.ldA ?_ | refine sq V.loA ?_
            refine se (S.storeA rfl ?_)
            refine sn ?_
            refine AW.ret ?_
            repeat with_reducible first | refine thn_ret ?_ | refine inb_ret ?_
            refine fin (Res.ic rfl) ?_
            obtain ⟨hkl, hr⟩ := hk.terms hf.up (by omega)
            have hrl : rtF s (n + 1) a = some (⟨nm2, nu2, l⟩, skO spP s a1) := by rw [hw, rlF, if_pos (.inr (by omega))]
            refine ⟨_, (List.Sublist.cons_cons _ (by repeat first | exact List.Sublist.refl _ | apply List.Sublist.cons)), ⟨nm2, nu2, l⟩, A, c, skO spP s a1, false, rfl, rfl, hr, hsp1.2, by rw [hrl]; rfl, fun t e h => by rw [hrl] at h; cases h; exact ⟨rfl, rfl⟩⟩
          ·
            have k4 := bp h4
            refine AW.skip ?_
            refine AW.seq ?_
            refine AW.seq ?_
            refine AW.regionD mx false [0, 1, 2, 3, 4, 5, 6, 7, 8, 9] [[], [0], [0, 1], [0, 1, 2], [], [4], [4, 5], [4, 5, 6], [0, 1, 2, 3, 4, 5, 6, 7], [0, 1, 2, 3, 4, 5, 6, 7, 8]] (by kernel_rfl) ?_
            refine D.p rfl rfl V.move ?_
            refine D.p rfl rfl (by first | exact V.nc | exact V.ncF) ?_
            refine D.p rfl rfl V.fa0 ?_
            first | refine D.p rfl rfl V.ld ?_ | refine D.q rfl rfl V.lo ?_
            refine D.p rfl rfl V.move ?_
            refine D.p rfl rfl (by first | exact V.nc | exact V.ncF) ?_
            refine D.p rfl rfl V.faz ?_
            first | refine D.p rfl rfl V.ld ?_ | refine D.q rfl rfl V.lo ?_
            refine D.p rfl rfl (V.idx (by omega) (by omega)) ?_
            refine D.p rfl rfl V.eql ?_
            refine D.nl ?_
            refine cond (fun h5 => ?_) (fun h5 => ?_)
            ·
              have k5 := bp h5
              refine AW.seq ?_
              refine AW.region ?_
              refine st V.move ?_
              refine st (by first | exact V.nc | exact V.ncF) ?_
              refine st V.faz ?_
              first | refine st V.ld ?_ | refine sq V.lo ?_
              refine st (V.add64 (by omega)) ?_
              refine st (by first | exact V.nc | exact V.ncF) ?_
              refine st V.faz ?_
              refine se (S.store ?_)
              refine sn ?_
              refine AW.seq ?_
              have ec1 : ((skO spP s a1 : Nat) : Int) + 1 = ((skO spP s a1 + 1 : Nat) : Int) := by omega
              rw [ec1]
              refine AW.region ?_
              refine st V.move ?_
              refine se (S.call ?_)
              refine (r_term_c s hs b z m (by omega) (skO spP s a1 + 1) (by omega) (by omega) _ _).use ?_
              rintro v11 N11 G11 iz11 ⟨t7, A7, c7, p7, bd7, rfl, hG, hv7, hp7, hb7, hr7⟩
              obtain rfl := hG
              have hsp7 := skO_le spP s p7 hp7
              refine se (S.alloc ?_); intro b4
              refine se (S.storeA rfl ?_)
              refine sn ?_
              refine AW.seq ?_
              refine AW.fz 0 fun M7 i7 j7 => ?_
              refine AW.region ?_
              refine st V.move ?_
              refine se (S.call ?_)
              refine (r_spaces_c _ _ b s hs (bd7) (p7) (by omega)).use ?_
              rintro v12 N12 G12 iz12 ⟨rfl, hG⟩
              obtain rfl := hG
              refine sn ?_
              refine AW.seq ?_
              refine AW.seq ?_
              refine AW.regionD mx false [0, 1, 2, 3, 4, 5, 6, 7, 8, 9, 10, 11, 12, 13, 14, 15, 16, 17, 18, 19, 20, 21] [[], [0], [0, 1], [0, 1, 2], [], [4], [4, 5], [4, 5, 6], [4, 5, 6, 7], [0, 1, 2, 3, 4, 5, 6, 7, 8], [0, 1, 2, 3, 4, 5, 6, 7, 8, 9], [0, 1, 2, 3, 4, 5, 6, 7, 8, 9, 10], [0, 1, 2, 3, 4, 5, 6, 7, 8, 9, 10, 11], [0, 1, 2, 3, 4, 5, 6, 7, 8, 9, 10, 11, 12], [0, 1, 2, 3, 4, 5, 6, 7, 8, 9, 10, 11, 12, 13], [0, 1, 2, 3, 4, 5, 6, 7, 8, 9, 10], [0, 1, 2, 3, 4, 5, 6, 7, 8, 9, 10, 15], [0, 1, 2, 3, 4, 5, 6, 7, 8, 9, 10, 15, 16], [0, 1, 2, 3, 4, 5, 6, 7, 8, 9, 10, 15, 16, 17], [0, 1, 2, 3, 4, 5, 6, 7, 8, 9, 10, 11, 12, 13, 14, 15, 16, 17, 18], [0, 1, 2, 3, 4, 5, 6, 7, 8, 9, 10, 11, 12, 13, 14, 15, 16, 17, 18, 19], [0, 1, 2, 3, 4, 5, 6, 7, 8, 9, 10, 11, 12, 13, 14, 15, 16, 17, 18, 19, 20]] (by kernel_rfl) ?_
              refine D.p rfl rfl V.move ?_
              refine D.p rfl rfl (by first | exact V.nc | exact V.ncF) ?_
              refine D.p rfl rfl V.faz ?_
              first | refine D.p rfl rfl V.ld ?_ | refine D.q rfl rfl V.lo ?_
              refine D.p rfl rfl V.move ?_
              refine D.p rfl rfl (by first | exact V.nc | exact V.ncF) ?_
              refine D.p rfl rfl V.fa0 ?_
              first | refine D.p rfl rfl V.ld ?_ | refine D.q rfl rfl V.lo ?_
              refine D.p rfl rfl V.lenS ?_
              refine D.p rfl rfl V.geq ?_
              refine D.p rfl rfl V.move ?_
              refine D.onoff false true rfl 74 (fun h6 => ?_) (fun h6 => ?_)
              ·
                have k6 := bp h6
                refine D.pOn rfl rfl h6 rfl V.move ?_
                refine D.pOn rfl rfl h6 rfl (by first | exact V.nc | exact V.ncF) ?_
                refine D.pOn rfl rfl h6 rfl V.fa0 ?_
                first | refine D.pOn rfl rfl h6 rfl V.ld ?_ | refine D.qOn rfl rfl h6 rfl V.lo ?_
                refine D.pOn rfl rfl h6 rfl V.move ?_
                refine D.pOn rfl rfl h6 rfl (by first | exact V.nc | exact V.ncF) ?_
                refine D.pOn rfl rfl h6 rfl V.faz ?_
                first | refine D.pOn rfl rfl h6 rfl V.ld ?_ | refine D.qOn rfl rfl h6 rfl V.lo ?_
                refine D.pOn rfl rfl h6 rfl (V.idx (by omega) (by omega)) ?_
                refine D.pOn rfl rfl h6 rfl V.neq ?_
                refine D.p rfl rfl (V.pF h6) ?_
                refine D.nl ?_
                refine cond (fun h7 => ?_) (fun h7 => ?_)
                ·
                  have k7 := bp h7
                  refine AW.seq ?_
                  refine AW.region ?_
                  refine st V.move ?_
                  refine st (by first | exact V.nc | exact V.ncF) ?_
                  refine st V.faz ?_
                  refine se (S.store ?_)
                  refine sn ?_
                  refine AW.seq ?_
                  refine AW.kp 1 fun Mk ik hk => ?_
                  refine AW.region ?_
                  first | refine st V.ldA ?_ | refine sq V.loA ?_
                  refine se (S.storeA rfl ?_)
                  refine sn ?_
                  refine AW.ret ?_
                  repeat with_reducible first | refine thn_ret ?_ | refine inb_ret ?_
                  refine fin (Res.ic rfl) ?_
                  obtain ⟨hkl, hr⟩ := hk.terms hf.up (by omega)
                  have hrn : rtF s (n + 1) a = none := by
                    rw [hw, rlF, if_neg (by omega), if_pos (by omega)]
                    cases hq7 : rtF s m (skO spP s a1 + 1) with
                    | none => rfl
                    | some p =>
                      obtain ⟨t, e⟩ := p
                      obtain ⟨rfl, rfl⟩ := hr7 t e hq7
                      exact if_pos (by omega)
                  refine ⟨_, (List.Sublist.cons_cons _ (by repeat first | exact List.Sublist.refl _ | apply List.Sublist.cons)), ⟨nm2, nu2, l⟩, A, c, skO spP s p7, true, rfl, rfl, hr, hsp7.2, by rw [hrn]; rfl, fun t e h => by rw [hrn] at h; cases h⟩
                ·
                  have k7 := bp h7
                  refine AW.skip ?_
                  refine AW.seq ?_
                  refine AW.region ?_
                  refine st V.move ?_
                  refine st (by first | exact V.nc | exact V.ncF) ?_
                  refine st V.faz ?_
                  first | refine st V.ld ?_ | refine sq V.lo ?_
                  refine st (V.add64 (by omega)) ?_
                  refine st (by first | exact V.nc | exact V.ncF) ?_
                  refine st V.faz ?_
                  refine se (S.store ?_)
                  refine sn ?_
                  refine AW.seq ?_
                  refine AW.region ?_
                  refine st V.faz ?_
                  first | refine st V.ld ?_ | refine sq V.lo ?_
                  first | refine st V.ldA ?_ | refine sq V.loA ?_
                  refine se (S.lit1 (by rfl) (by decide) ?_); intro g100
                  refine se (S.ap1 (by rfl) (by omega) (by omega) ?_)
                  intro A3 c3
                  refine st V.faz ?_
                  refine se (S.store ?_)
                  refine sn ?_
                  refine AW.exit ?_
                  repeat with_reducible refine thn_exit ?_
                  refine inb_exit ?_
                  repeat with_reducible refine inb_normal ?_
                  refine thn_normal ?_
                  have hq0 : ¬ (s.size ≤ skO spP s a1 ∨ byt s (skO spP s a1 : Nat) = 41) := by omega
                  have h40 : byt s (skO spP s a1 : Nat) = 40 := by omega
                  have hlt : skO spP s a1 < s.size := by omega
                  refine rnd m _ (by omega) (List.Sublist.refl _) ⟨l ++ [t7], skO spP s p7 + 1, A3, c3, _, bd7, rfl, by simp, (hf.up (M' := N12)).app (FlT.one (VVT.up hv7)), by omega, by simp; omega, fun hb => ?_, fun hb => ?_⟩
                  · rw [hw, rlF, if_neg hq0, if_pos h40, Option.isNone_iff_eq_none.1 (hb7.symm.trans hb)]
                  · cases hq7 : rtF s m (skO spP s a1 + 1) with
                    | none => rw [hb, hq7] at hb7; cases hb7
                    | some p =>
                      obtain ⟨t, e⟩ := p
                      obtain ⟨rfl, rfl⟩ := hr7 t e hq7
                      have hle := ((rt_tm s m).1 _ _ _ (by omega) (by omega) hq7).1
                      have hge := rtF_ge s m _ _ _ (by omega) hq7
                      exact ⟨by omega, by omega, by simp; omega, by rw [hw, rlF, if_neg hq0, if_pos h40, hq7]; exact if_neg (by omega)⟩
              ·
                have k6 := bp h6
                refine D.off rfl rfl (by rw [h6]; decide) ?_
                refine D.off rfl rfl (by rw [h6]; decide) ?_
                refine D.off rfl rfl (by rw [h6]; decide) ?_
                refine D.off rfl rfl (by rw [h6]; decide) ?_
                refine D.off rfl rfl (by rw [h6]; decide) ?_
                refine D.off rfl rfl (by rw [h6]; decide) ?_
                refine D.off rfl rfl (by rw [h6]; decide) ?_
                refine D.off rfl rfl (by rw [h6]; decide) ?_
                refine D.off rfl rfl (by rw [h6]; decide) ?_
                refine D.off rfl rfl (by rw [h6]; decide) ?_
                refine D.p rfl rfl (V.pT h6) ?_
                refine D.nl ?_
                refine cond (fun _ => ?_) (fun h => by cases h)
                refine AW.seq ?_
                refine AW.region ?_
                refine st V.move ?_
                refine st (by first | exact V.nc | exact V.ncF) ?_
                refine st V.faz ?_
                refine se (S.store ?_)
                refine sn ?_
                refine AW.seq ?_
                refine AW.kp 1 fun Mk ik hk => ?_
                refine AW.region ?_
                first | refine st V.ldA ?_ | refine sq V.loA ?_
                refine se (S.storeA rfl ?_)
                refine sn ?_
                refine AW.ret ?_
                repeat with_reducible first | refine thn_ret ?_ | refine inb_ret ?_
                refine fin (Res.ic rfl) ?_
                obtain ⟨hkl, hr⟩ := hk.terms hf.up (by omega)
                have hrn : rtF s (n + 1) a = none := by
                  rw [hw, rlF, if_neg (by omega), if_pos (by omega)]
                  cases hq7 : rtF s m (skO spP s a1 + 1) with
                  | none => rfl
                  | some p =>
                    obtain ⟨t, e⟩ := p
                    obtain ⟨rfl, rfl⟩ := hr7 t e hq7
                    exact if_pos (by omega)
                refine ⟨_, (List.Sublist.cons_cons _ (by repeat first | exact List.Sublist.refl _ | apply List.Sublist.cons)), ⟨nm2, nu2, l⟩, A, c, skO spP s p7, true, rfl, rfl, hr, hsp7.2, by rw [hrn]; rfl, fun t e h => by rw [hrn] at h; cases h⟩
            ·
              have k5 := bp h5
              refine AW.skip ?_
              refine AW.regionP mx [0, 1, 2, 3, 4, 5, 6, 7] [[], [0], [], [2], [2, 3], [0, 1, 2, 3, 4], [0, 1, 2, 3, 4, 5], [0, 1, 2, 3, 4, 5, 6]] (by kernel_rfl) ?_
              refine DP.p rfl rfl V.faz ?_
              refine DP.lo rfl ?_
              refine DP.p rfl rfl V.move ?_
              refine DP.e rfl rfl (S.call ?_)
              refine (r_word_c _ _ b s hs (skO spP s a1) (by omega)).use ?_
              rintro v18 N18 G18 iz18 ⟨⟨nm8, nu8, rfl, hw8⟩, hG⟩
              obtain rfl := hG
              refine ⟨(by repeat first | exact pk0 | refine pk1 rfl ?_ | refine pk2 ?_ | refine pk3 ?_), ?_⟩
              refine DP.e rfl rfl (S.lit1 (by rfl) (by decide) ?_); intro g107
              refine ⟨(by repeat first | exact pk0 | refine pk1 rfl ?_ | refine pk2 ?_ | refine pk3 ?_), ?_⟩
              refine DP.e rfl rfl (S.ap1 (by rfl) (by omega) (by omega) ?_)
              intro A3 c3
              refine ⟨(by repeat first | exact pk0 | refine pk1 rfl ?_ | refine pk2 ?_ | refine pk3 ?_), ?_⟩
              refine DP.p rfl rfl V.faz ?_
              refine DP.e rfl rfl (S.store ?_)
              refine ⟨(by repeat first | exact pk0 | refine pk1 rfl ?_ | refine pk2 ?_ | refine pk3 ?_), ?_⟩
              refine DP.nl ?_
              unfold outQ
              repeat with_reducible refine inb_normal ?_
              refine thn_normal ?_
              have hq0 : ¬ (s.size ≤ skO spP s a1 ∨ byt s (skO spP s a1 : Nat) = 41) := by omega
              have h40 : ¬ byt s (skO spP s a1 : Nat) = 40 := by omega
              have hlt : skO spP s a1 < s.size := by omega
              refine rnd m _ (by omega) (List.Sublist.refl _) ⟨l ++ [⟨nm8, nu8, []⟩], wE s (skO spP s a1), A3, c3, _, (wordF s (skO spP s a1)).isNone, rfl, by simp, (hf.up (M' := N18)).app FlT.leaf, by omega, by simp; omega, fun hb => ?_, fun hb => ?_⟩
              · rw [hw, rlF, if_neg hq0, if_neg h40, Option.isNone_iff_eq_none.1 hb]
              · cases hq8 : wordF s (skO spP s a1) with
                | none => rw [hq8] at hb; cases hb
                | some t =>
                  obtain rfl := hw8 t hq8
                  have hlt6 := (wordF_some hsp1.2 hq8).1
                  exact ⟨by omega, by omega, by simp; omega, by rw [hw, rlF, if_neg hq0, if_neg h40, hq8]⟩
        ·
          have k3 := bp h3
          refine D.off rfl rfl (by rw [h3]; decide) ?_
          refine D.off rfl rfl (by rw [h3]; decide) ?_
          refine D.off rfl rfl (by rw [h3]; decide) ?_
          refine D.off rfl rfl (by rw [h3]; decide) ?_
          refine D.off rfl rfl (by rw [h3]; decide) ?_
          refine D.off rfl rfl (by rw [h3]; decide) ?_
          refine D.off rfl rfl (by rw [h3]; decide) ?_
          refine D.off rfl rfl (by rw [h3]; decide) ?_
          refine D.off rfl rfl (by rw [h3]; decide) ?_
          refine D.off rfl rfl (by rw [h3]; decide) ?_
          refine D.p rfl rfl (V.pT h3) ?_
          refine D.nl ?_
          refine cond (fun _ => ?_) (fun h => by cases h)
          refine AW.seq ?_
          refine AW.kp 1 fun Mk ik hk => ?_
          refine AW.region ?_
          first | refine st V.ldA ?_ | refine sq V.loA ?_
          refine se (S.storeA rfl ?_)
          refine sn ?_
          refine AW.ret ?_
          repeat with_reducible first | refine thn_ret ?_ | refine inb_ret ?_
          refine fin (Res.ic rfl) ?_
          obtain ⟨hkl, hr⟩ := hk.terms hf.up (by omega)
          have hrl : rtF s (n + 1) a = some (⟨nm2, nu2, l⟩, skO spP s a1) := by rw [hw, rlF, if_pos (.inl (by omega))]
          refine ⟨_, (List.Sublist.cons_cons _ (by repeat first | exact List.Sublist.refl _ | apply List.Sublist.cons)), ⟨nm2, nu2, l⟩, A, c, skO spP s a1, false, rfl, rfl, hr, hsp1.2, by rw [hrl]; rfl, fun t e h => by rw [hrl] at h; cases h; exact ⟨rfl, rfl⟩⟩
      ·
        have k2 := bp h2
        refine AW.exit ?_
        repeat with_reducible refine thn_exit ?_
        refine inb_exit ?_
        refine AW.seq ?_
        refine AW.kp 1 fun Mk ik hk => ?_
        refine AW.region ?_
        first | refine st V.ldA ?_ | refine sq V.loA ?_
        refine se (S.storeA rfl ?_)
        refine sn ?_
        refine AW.ret ?_
        repeat with_reducible first | refine thn_ret ?_ | refine inb_ret ?_
        refine fin (Res.ic rfl) ?_
        obtain ⟨hkl, hr⟩ := hk.terms hf.up (by omega)
        have hb2 : bd = true := by simpa using k2
        have hrn := hbt hb2
        refine ⟨_, (List.Sublist.cons_cons _ (by repeat first | exact List.Sublist.refl _ | apply List.Sublist.cons)), ⟨nm2, nu2, l⟩, A, c, a1, bd, rfl, rfl, hr, ha1, by rw [hrn, hb2]; rfl, fun t e h => by rw [hrn] at h; cases h⟩
end Go.Proofs.YtieaiheejhmbfaaGreatDoor.ML
/- The plain laws of the reference's known and build. No conditions. -/
namespace Go.Proofs.YtieaiheejhmbfaaGreatDoor.ML
open Go.RowKit
set_option linter.unusedVariables false
set_option linter.unusedSimpArgs false
def hasC (nm : ByteArray) (l : List CT) : Bool := l.any fun c => decide (c.name = nm)
def hasD (nm : ByteArray) (d : List DT) : Bool := d.any fun x => hasC nm x.cons
theorem conF_any (nm : ByteArray) : ∀ (d : List DT) (t0 : Int), (conF nm d t0).2.2 = hasD nm d
  | [], _ => rfl
  | x :: d, t0 => by
    have h := idxP_any (fun c : CT => decide (c.name = nm)) x.cons
    rw [conF]
    unfold hasD hasC
    rw [List.any_cons]
    split
    · rename_i h0; rw [decide_eq_true h0] at h; rw [← h]; rfl
    · rename_i h0; rw [decide_eq_false h0] at h; rw [← h, Bool.false_or]; exact conF_any nm d (t0 + 1)
theorem hasD_take (nm : ByteArray) (d : List DT) (i : Nat) (h : i < d.length) : hasD nm (d.take (i + 1)) = (hasD nm (d.take i) || hasC nm d[i].cons) := by
  unfold hasD; rw [take_succ _ _ h, List.any_append]; simp
theorem hasC_take (nm : ByteArray) (l : List CT) (i : Nat) (h : i < l.length) : hasC nm (l.take (i + 1)) = (hasC nm (l.take i) || decide (l[i].name = nm)) := by
  unfold hasC; rw [take_succ _ _ h, List.any_append]; simp
theorem knL_take (d : List DT) (l : List TT) (i : Nat) (h : i < l.length) : knL d (l.take (i + 1)) = (knL d (l.take i) && knV d l[i]) := by
  induction l generalizing i with
  | nil => simp at h
  | cons t l ih =>
    cases i with
    | zero => simp [knL]
    | succ i =>
      have := ih i (by simpa using h)
      simp only [List.take_succ_cons, knL, List.getElem_cons_succ] at this ⊢
      rw [this, Bool.and_assoc]
theorem bd_hit {d : List DT} (hN : NmOk d) (hu : (cnL d).Nodup) (p : Nat) (hp : p < d.length) (k : Nat) (hk : k < d[p].cons.length) (x : TT) (hx : d[p].cons[k].name = x.name) (hl : d[p].cons[k].fields.length = x.args.length) : bdV d ((p : Int) + 1) x = (bdL d d[p].cons[k].fields x.args).map fun vs => ⟨0, (k : Int), vs⟩ := by
  have hcf := conF_uniq d p hp k hk 1 hu
  rw [hx] at hcf
  have hfl : fldC d ((p : Int) + 1) (k : Int) = d[p].cons[k].fields := by
    unfold fldC; rw [consF_at d p hp]; simp [List.getD, hk]
  have hnm := (name_lt (hN p hp k hk)).2.2.2.2
  rw [bd_yes (d := d) x (by omega) (by rw [hcf]; dsimp only; rw [hfl]; rw [hx] at hnm; intro hh; rcases hh with hh | hh | hh | hh; exact hnm hh; cases hh; omega; exact hh hl), hcf]
  dsimp only
  rw [hfl]
theorem idx_snd {α : Type} (p : α → Bool) : ∀ (l : List α), 0 ≤ idxP p l → ∃ (k : Nat) (h : k < l.length), idxP p l = (k : Int) ∧ p l[k] = true
  | [], h => by rw [idxP] at h; omega
  | x :: l, h => by
    rw [idxP] at h ⊢
    by_cases hp : p x = true
    · rw [if_pos hp]; exact ⟨0, by simp, rfl, hp⟩
    · rw [if_neg hp] at h ⊢
      by_cases h1 : idxP p l < 0
      · rw [if_pos h1] at h; omega
      · rw [if_neg h1]
        obtain ⟨k, hk, e, hpk⟩ := idx_snd p l (by omega)
        exact ⟨k + 1, by simp; omega, by rw [e]; push_cast; rfl, by simpa using hpk⟩
theorem conF_snd (nm : ByteArray) : ∀ (d : List DT) (t0 : Int), (conF nm d t0).2.2 = true → ∃ (p : Nat) (hp : p < d.length) (k : Nat) (hk : k < d[p].cons.length), conF nm d t0 = (t0 + (p : Int), (k : Int), true) ∧ d[p].cons[k].name = nm
  | [], t0, h => by rw [conF] at h; cases h
  | x :: d, t0, h => by
    rw [conF] at h ⊢
    by_cases h0 : 0 ≤ idxP (fun c : CT => decide (c.name = nm)) x.cons
    · rw [if_pos h0]
      obtain ⟨k, hk, e, hpk⟩ := idx_snd _ x.cons h0
      exact ⟨0, by simp, k, hk, by rw [e]; simp, by simpa using hpk⟩
    · rw [if_neg h0] at h ⊢
      obtain ⟨p, hp, k, hk, e, hn⟩ := conF_snd nm d (t0 + 1) h
      exact ⟨p + 1, by simp; omega, k, hk, by rw [e]; simp only [Prod.mk.injEq, and_true]; push_cast; omega, hn⟩
theorem bd_miss {d : List DT} (p : Nat) (hp : p < d.length) (x : TT) (h : ∀ k (hk : k < d[p].cons.length), ¬ (d[p].cons[k].name = x.name ∧ d[p].cons[k].fields.length = x.args.length)) : bdV d ((p : Int) + 1) x = none := by
  refine bd_no (d := d) x (by omega) (Classical.byContradiction fun hh => ?_)
  have h1 : (conF x.name d 1).2.2 = true := by cases hc : (conF x.name d 1).2.2 with | true => rfl | false => exact absurd (.inr (.inl hc)) hh
  obtain ⟨q, hq, k, hk, e, hn⟩ := conF_snd x.name d 1 h1
  have h2 : (conF x.name d 1).1 = (p : Int) + 1 := Classical.byContradiction fun h3 => hh (.inr (.inr (.inl h3)))
  have h4 : (fldC d ((p : Int) + 1) (conF x.name d 1).2.1).length = x.args.length := Classical.byContradiction fun h3 => hh (.inr (.inr (.inr h3)))
  rw [e] at h2 h4
  dsimp only at h2 h4
  obtain rfl : q = p := by omega
  have hfl : fldC d ((q : Int) + 1) (k : Int) = d[q].cons[k].fields := by
    unfold fldC; rw [consF_at d q hp]; simp [List.getD, hk]
  rw [hfl] at h4
  exact h k hk ⟨hn, h4⟩
end Go.Proofs.YtieaiheejhmbfaaGreatDoor.ML
/- The reference's Parse computes what the program's does. No conditions. -/
namespace Go.Proofs.YtieaiheejhmbfaaGreatDoor.ML
open Go.RowKit
set_option linter.unusedVariables false
set_option linter.unusedSimpArgs false
section
variable {d : List DT} {t : Int} {s : ByteArray}
theorem pr_4 (h : tableF d t = 0) (h1 : ¬ 65536 < s.size) (h2 : ∀ x e, rtF s (s.size + 1) 0 = some (x, e) → skO spP s e < s.size) : parseF d t s = (⟨0, 0, []⟩, 4) := by
  cases hq : termF s (s.size + 1) 0 with
  | mk o e =>
    cases o with
    | none => exact pa_2 h h1 (by rw [hq]; rfl)
    | some x =>
      have hp := pa_x (d := d) (t := t) h h1 (x := x) (by rw [hq])
      rw [hp, hq]
      by_cases he : e < s.size
      · exact if_pos he
      · obtain ⟨g1, g2⟩ := (tm_rt s (s.size + 1)).1 0 x e (by omega) hq
        obtain ⟨e1, k1, k2⟩ := g2 (.inl (by omega))
        have := h2 x e1 k1
        omega
theorem pr_x (h : tableF d t = 0) (h1 : ¬ 65536 < s.size) {x : TT} {e : Nat} (h2 : rtF s (s.size + 1) 0 = some (x, e)) (h3 : ¬ skO spP s e < s.size) : parseF d t s = ((if knV d x = false then (⟨0, 0, []⟩, 9) else match bdV d t x with
      | none => (⟨0, 0, []⟩, 10)
      | some v => (v, 0)) : VT × Int) := by
  have g := (rt_tm s (s.size + 1)).1 0 x e (by omega) (by omega) h2
  have hsp := skO_le spP s e g.1
  have := g.2 (.inl (by omega))
  rw [pa_x h h1 (x := x) (by rw [this]), this]
  exact if_neg h3
end
end Go.Proofs.YtieaiheejhmbfaaGreatDoor.ML
/- The abstract layer: a region with two events in either order, of which one's followers stand apart. No conditions. -/
namespace Go.Proofs.YtieaiheejhmbfaaGreatDoor.ML
open Go.RowKit
set_option linter.unusedVariables false
set_option linter.unusedSimpArgs false
section
variable {P : Program} {ro : RO} {ops : Array Oper} {Q : Post} {tm : Tm} {M : Mem} {H : Heap} {K K' : Tm → Mem → Heap → Prop}
/-- Two events a, b in either order: two walks. All other events lean on both; what leans on one may stand apart from the other. -/
def chk3 (ops : Array Oper) (a b : Nat) (l l' : List Nat) (tab : List (List Nat)) : Bool :=
  sepB ops tab (fun i j => i == a && (j == b || (tab.getD j []).contains b)) l && sepB ops tab (fun i j => i == b && (j == a || (tab.getD j []).contains a)) l' && linB ops l && tabB ops tab && l.length == ops.size && (List.range ops.size).all (fun i => l.contains i) && (List.range ops.size).all (fun j => (dirs ops j).all fun d => d < ops.size) && ndB l && l.all (fun i => i < ops.size)
    && ndB l' && l'.all (fun i => l.contains i) && l.all (fun i => l'.contains i) && l.all (fun i => (match ops[i]? with | some o => !isEv o.op | none => false) || i == a || i == b || ((tab.getD i []).contains a && (tab.getD i []).contains b)) && l.contains a && l.contains b && (a != b)
theorem AW.regionD3 {id : Nat} {l0 : List Oper} (hx : P.follows .mixedOrders = true) (a b : Nat) (l l' : List Nat) (tab : List (List Nat)) (hc : chk3 l0.toArray a b l l' tab = true) (h : AT P ro l0.toArray true (outQ Q) l tm M H) (h' : AT P ro l0.toArray true (outQ Q) l' tm M H) : AW P ro (.region id l0.toArray true) Q tm M H := by
  unfold chk3 at hc
  simp only [Bool.and_eq_true, beq_iff_eq, List.all_eq_true, List.mem_range, Bool.or_eq_true, decide_eq_true_eq, bne_iff_ne] at hc
  obtain ⟨⟨⟨⟨⟨⟨⟨⟨⟨⟨⟨⟨⟨⟨⟨c1, c1'⟩, c2⟩, c3⟩, c4⟩, c5⟩, c7⟩, c8⟩, c9⟩, d1⟩, d2⟩, d3⟩, d4⟩, d5⟩, d6⟩, d7⟩ := hc
  let X : List Nat → Tm → Mem → Heap → Prop := fun l tm M H =>
    (∃ l1, (∀ i, i ∈ l ↔ i ∈ l1) ∧ l1.Nodup ∧ sepB l0.toArray tab (fun _ _ => false) l1 = true ∧ AT P ro l0.toArray true (outQ Q) l1 tm M H) ∨
    ∃ l1 l2, (∀ i, i ∈ l ↔ i ∈ l1) ∧ (∀ i, i ∈ l ↔ i ∈ l2) ∧ l1.Nodup ∧ l2.Nodup ∧ sepB l0.toArray tab (fun i j => i == a && (j == b || (tab.getD j []).contains b)) l1 = true ∧ sepB l0.toArray tab (fun i j => i == b && (j == a || (tab.getD j []).contains a)) l2 = true ∧
      (∀ i ∈ l, (match l0.toArray[i]? with | some o => isEv o.op = false | none => False) ∨ i = a ∨ i = b ∨ ((tab.getD i []).contains a = true)) ∧ a ∈ l ∧ b ∈ l ∧ AT P ro l0.toArray true (outQ Q) l1 tm M H ∧ AT P ro l0.toArray true (outQ Q) l2 tm M H
  have me : ∀ {l l1 : List Nat} (i : Nat), l.Nodup → l1.Nodup → (∀ i, i ∈ l ↔ i ∈ l1) → ∀ k, k ∈ l.erase i ↔ k ∈ l1.erase i := fun i h1 h2 h k => by rw [h1.mem_erase_iff, h2.mem_erase_iff, h k]
  have hfalse : ∀ {l1 : List Nat} {p : Nat} {f : Nat → Bool}, l1.Nodup → sepB l0.toArray tab (fun i j => i == p && f j) l1 = true → sepB l0.toArray tab (fun _ _ => false) (l1.erase p) = true := fun {l1 p f} hn hs =>
    sepB_mono (fun i hi j hj he => by
      simp only [Bool.and_eq_true, beq_iff_eq] at he
      rw [he.1, hn.mem_erase_iff] at hi
      exact absurd rfl hi.1) (sepB_erase hs p)
  refine AW.regionX (tab := tab) (X := X) hx (fun l i tm M H hw hA hnd hi hr => ?_) (fun tm M H hA => ?_) true l c2 c3 c4 c5 c7 c8 c9 (.inr ⟨l, l', fun i => Iff.rfl, fun i => ⟨fun hi => List.contains_iff_mem.1 (d3 i hi), fun hi => List.contains_iff_mem.1 (d2 i hi)⟩, ndB_nodup c8, ndB_nodup d1, c1, c1', fun i hi => ?_, List.contains_iff_mem.1 d5, List.contains_iff_mem.1 d6, h, h'⟩)
  · rcases hA with ⟨l1, e1, n1, s1, A1⟩ | ⟨l1, l2, e1, e2, n1, n2, s1, s2, ot, ha, hb, A1, A2⟩
    · obtain ⟨o, ho, hst, _⟩ := AT.first (.inl rfl) s1 n1 ((e1 i).1 hi) (fun j hj => ⟨rfl, hr j ((e1 j).2 hj)⟩) A1
      exact ⟨o, ho, hst.mono fun _ _ _ _ h => .inl ⟨l1.erase i, me i hnd n1 e1, n1.erase i, sepB_erase s1 i, h⟩⟩
    · by_cases ia : i = a
      · subst ia
        obtain ⟨o, ho, hst, _⟩ := AT.first (.inl rfl) s1 n1 ((e1 i).1 hi) (fun j hj => ⟨by rw [hr b hb]; simp [d7], hr j ((e1 j).2 hj)⟩) A1
        exact ⟨o, ho, hst.mono fun _ _ _ _ h => .inl ⟨l1.erase i, me i hnd n1 e1, n1.erase i, hfalse (f := fun j => j == b || (tab.getD j []).contains b) n1 s1, h⟩⟩
      by_cases ib : i = b
      · subst ib
        obtain ⟨o, ho, hst, _⟩ := AT.first (.inl rfl) s2 n2 ((e2 i).1 hi) (fun j hj => ⟨by rw [hr a ha]; simp; intro _ e; exact d7 e.symm, hr j ((e2 j).2 hj)⟩) A2
        exact ⟨o, ho, hst.mono fun _ _ _ _ h => .inl ⟨l2.erase i, me i hnd n2 e2, n2.erase i, hfalse (f := fun j => j == a || (tab.getD j []).contains a) n2 s2, h⟩⟩
      obtain ⟨o, ho, _, p1⟩ := AT.first (.inl rfl) s1 n1 ((e1 i).1 hi) (fun j hj => ⟨by rw [hr b hb]; simp [ib], hr j ((e1 j).2 hj)⟩) A1
      obtain ⟨o', ho', _, p2⟩ := AT.first (.inl rfl) s2 n2 ((e2 i).1 hi) (fun j hj => ⟨by rw [hr a ha]; simp [ia], hr j ((e2 j).2 hj)⟩) A2
      rw [ho] at ho'; cases ho'
      rcases ot i hi with hp | hp | hp | hp
      · rw [ho] at hp
        obtain ⟨v, hv, k1⟩ := p1 hp
        obtain ⟨v', hv', k2⟩ := p2 hp
        obtain rfl := PVG.uniq hw hv hv'
        exact ⟨o, ho, ST.ofG hv (.inr ⟨l1.erase i, l2.erase i, me i hnd n1 e1, me i hnd n2 e2, n1.erase i, n2.erase i, sepB_erase s1 i, sepB_erase s2 i, fun k hk => ot k (List.mem_of_mem_erase hk), hnd.mem_erase_iff.2 ⟨fun e => ia e.symm, ha⟩, hnd.mem_erase_iff.2 ⟨fun e => ib e.symm, hb⟩, k1, k2⟩)⟩
      · exact absurd hp ia
      · exact absurd hp ib
      · rw [hr a ha] at hp; cases hp
  · rcases hA with ⟨l1, e1, n1, s1, A1⟩ | ⟨l1, l2, e1, e2, n1, n2, s1, s2, ot, ha, hb, A1, A2⟩
    · have : l1 = [] := List.eq_nil_iff_forall_not_mem.2 fun i hi => by have := (e1 i).2 hi; simp at this
      subst this; exact A1
    · simp at ha
  · rcases d4 i hi with ((h | h) | h) | h
    · left
      split at h
      · simpa using h
      · cases h
    · exact .inr (.inl h)
    · exact .inr (.inr (.inl h))
    · exact .inr (.inr (.inr h.1))
end
end Go.Proofs.YtieaiheejhmbfaaGreatDoor.ML
/- Walks of functions of the program, in the abstract layer. No conditions. -/
namespace Go.Proofs.YtieaiheejhmbfaaGreatDoor.ML
open Go.RowKit
set_option linter.unusedVariables false
set_option linter.unusedSimpArgs false
set_option maxHeartbeats 1600000 in
set_option synthInstance.maxHeartbeats 400000 in
set_option synthInstance.maxSize 100000 in
set_option maxRecDepth 100000 in
theorem r_known_c (d : List DT) : ∀ (z : Nat) (x : TT), SizeOf.sizeOf x < z → ∀ (M : Mem) (H : Heap) (Ad : Option Addr) (cd : Nat) (A : Option Addr) (c : Nat), RdS 2 (RdD M) Ad cd d → VVT M A c x →
    AC Tryz.prog 53 [.slice Ad d.length cd, .agg #[.string x.name, .int .i64 x.num, .slice A x.args.length c]] M H fun r _ H' => r = .bool (knV d x) ∧ H' = H
  | 0, _, hz => by omega
  | z + 1, x, hz => by
    intro M H Ad cd A c hd hx
    have hbd := hd.bd
    have hba : x.args.length ≤ 140737488355328 := RdS.bd hx
    refine AC.of (n := 59) Tryz.func53 rfl rfl ?_
    dsimp only [List.replicate, List.cons_append, List.nil_append]
    refine AW.seq ?_
    refine AW.region ?_
    refine se (S.boxM ?_); intro b3 M3 i3 j3
    refine st V.assign ?_
    refine sn ?_
    refine AW.seq ?_
    refine AW.region ?_
    refine st V.fa0 ?_
    first | refine st V.ld ?_ | refine sq V.lo ?_
    refine st V.eqs ?_
    refine st V.assign ?_
    refine sn ?_
    refine AW.seq ?_
    refine AW.seq ?_
    refine AW.region ?_
    refine st V.assign ?_
    refine sn ?_
    refine AW.block ?_
    refine AW.loopL [5, 6] (7 :: 12 :: 13 :: 14 :: 15 :: 16 :: 17 :: 18 :: 19 :: 20 :: 21 :: 22 :: 23 :: 24 :: 25 :: 26 :: 27 :: 28 :: 29 :: 30 :: 31 :: 32 :: 33 :: 34 :: 35 :: 36 :: 37 :: 38 :: 39 :: 40 :: 41 :: 42 :: []) (fun n vs M' H' => ∃ i : Nat, vs = [.bool (decide (x.name = ⟨#[]⟩) || hasD x.name (d.take i)), .int .i64 (i : Int)] ∧ H' = H ∧ i + n = d.length) (d.length) (⟨0, by simp [hasD], rfl, by omega⟩) ?_
    intro n Ml Hl iL u5 u6 hI u7 u12 u13 u14 u15 u16 u17 u18 u19 u20 u21 u22 u23 u24 u25 u26 u27 u28 u29 u30 u31 u32 u33 u34 u35 u36 u37 u38 u39 u40 u41 u42
    obtain ⟨i, hv, hH, hi⟩ := hI
    obtain rfl := hH.symm
    cases hv
    refine sa ?_
    refine AW.seq ?_
    refine AW.seq ?_
    refine AW.region ?_
    refine st V.move ?_
    refine st V.move ?_
    refine st V.len ?_
    refine st V.lss ?_
    refine sn ?_
    refine cond (fun h1 => ?_) (fun h1 => ?_)
    ·
      have k1 := bp h1
      refine AW.skip ?_
      refine AW.seq ?_
      refine AW.block ?_
      refine AW.seq ?_
      have z4 : i < d.length := by omega
      obtain ⟨b8, o8, hA8, i0, ib0, A8, c8, i1, i2⟩ := (hd.upD (M' := Ml)).at i z4
      have hb8 := i2.bd
      refine AW.region ?_
      refine st V.assign ?_
      refine sn ?_
      refine AW.block ?_
      refine AW.loopL [5, 7] (18 :: 19 :: 20 :: 21 :: 22 :: 23 :: 24 :: 25 :: 26 :: 27 :: 28 :: 29 :: 30 :: 31 :: 32 :: 33 :: 34 :: 35 :: 36 :: 37 :: 38 :: 39 :: 40 :: 41 :: 42 :: []) (fun n vs M' H' => ∃ k : Nat, vs = [.bool ((decide (x.name = ⟨#[]⟩) || hasD x.name (d.take i)) || hasC x.name (d[i].cons.take k)), .int .i64 (k : Int)] ∧ H' = H ∧ k + n = d[i].cons.length) (d[i].cons.length) (⟨0, by simp [hasC], rfl, by omega⟩) ?_
      intro n1 Ml1 Hl1 iL1 u5 u7 hI1 u18 u19 u20 u21 u22 u23 u24 u25 u26 u27 u28 u29 u30 u31 u32 u33 u34 u35 u36 u37 u38 u39 u40 u41 u42
      obtain ⟨k, hv, hH, hk⟩ := hI1
      obtain rfl := hH.symm
      cases hv
      refine sa ?_
      refine AW.seq ?_
      refine AW.seq ?_
      refine AW.region ?_
      refine st V.move ?_
      refine st V.move ?_
      refine st V.move ?_
      refine st (V.ib i rfl z4 hA8) ?_
      refine st V.fa ?_
      first | refine st V.ld ?_ | refine sq V.lo ?_
      refine st V.len ?_
      refine st V.lss ?_
      refine sn ?_
      refine cond (fun h2 => ?_) (fun h2 => ?_)
      ·
        have k2 := bp h2
        refine AW.skip ?_
        refine AW.seq ?_
        refine AW.block ?_
        have z7 : k < d[i].cons.length := by omega
        obtain ⟨b7, o7, hA7, j0, jb0, A7, c7, q1, q2⟩ := (i2.upC (M' := Ml1)).at k z7
        refine AW.regionD mx false [0, 1, 2, 3, 4, 5, 6, 7, 8, 9, 10, 11, 12, 13, 14, 15] [[], [0], [0, 1], [0, 1], [0, 1, 2, 3], [0, 1, 2, 3, 4], [0, 1, 2, 3, 4, 5], [0, 1], [0, 1, 2, 3, 4, 5, 6, 7], [0, 1, 2, 3, 4, 5, 6, 7, 8], [0, 1, 2, 3, 4, 5, 6, 7, 8, 9], [0, 1], [0, 1, 11], [0, 1, 2, 3, 4, 5, 6, 7, 8, 9, 10, 11, 12], [0, 1, 2, 3, 4, 5, 6, 7, 8, 9, 10, 11, 12, 13], [0, 1, 2, 3, 4, 5, 6, 7, 8, 9, 10, 11, 12, 13, 14]] (by kernel_rfl) ?_
        refine D.p rfl rfl V.move ?_
        refine D.p rfl rfl V.move ?_
        refine D.onoff false true rfl 29 (fun h3 => ?_) (fun h3 => ?_)
        ·
          have k3 := bp h3
          refine D.pOn rfl rfl h3 rfl V.move ?_
          refine D.pOn rfl rfl h3 rfl V.move ?_
          refine D.pOn rfl rfl h3 rfl (V.ib i rfl z4 hA8) ?_
          refine D.pOn rfl rfl h3 rfl V.fa ?_
          first | refine D.pOn rfl rfl h3 rfl V.ld ?_ | refine D.qOn rfl rfl h3 rfl V.lo ?_
          refine D.pOn rfl rfl h3 rfl V.move ?_
          refine D.pOn rfl rfl h3 rfl (V.ib k rfl z7 hA7) ?_
          refine D.pOn rfl rfl h3 rfl V.fa0 ?_
          first | refine D.pOn rfl rfl h3 rfl V.ld ?_ | refine D.qOn rfl rfl h3 rfl V.lo ?_
          refine D.pOn rfl rfl h3 rfl V.fa0 ?_
          first | refine D.pOn rfl rfl h3 rfl V.ld ?_ | refine D.qOn rfl rfl h3 rfl V.lo ?_
          refine D.pOn rfl rfl h3 rfl V.eqs ?_
          refine D.p rfl rfl (V.pF h3) ?_
          refine D.p rfl rfl V.assign ?_
          refine D.nl ?_
          refine AW.region ?_
          refine st V.move ?_
          refine st (V.add64 (by omega)) ?_
          refine st V.assign ?_
          refine sn ?_
          repeat with_reducible refine inb_normal ?_
          refine thn_normal ?_
          refine rnd (n1 - 1) _ (by omega) (List.Sublist.refl _) ⟨k + 1, ?_, rfl, by omega⟩
          rw [hasC_take _ _ _ z7, ← Bool.or_assoc, k3, Bool.false_or]; simp
        ·
          have k3 := bp h3
          refine D.off rfl rfl (by rw [h3]; decide) ?_
          refine D.off rfl rfl (by rw [h3]; decide) ?_
          refine D.off rfl rfl (by rw [h3]; decide) ?_
          refine D.off rfl rfl (by rw [h3]; decide) ?_
          refine D.off rfl rfl (by rw [h3]; decide) ?_
          refine D.off rfl rfl (by rw [h3]; decide) ?_
          refine D.off rfl rfl (by rw [h3]; decide) ?_
          refine D.off rfl rfl (by rw [h3]; decide) ?_
          refine D.off rfl rfl (by rw [h3]; decide) ?_
          refine D.off rfl rfl (by rw [h3]; decide) ?_
          refine D.off rfl rfl (by rw [h3]; decide) ?_
          refine D.off rfl rfl (by rw [h3]; decide) ?_
          refine D.p rfl rfl (V.pT h3) ?_
          refine D.p rfl rfl V.assign ?_
          refine D.nl ?_
          refine AW.region ?_
          refine st V.move ?_
          refine st (V.add64 (by omega)) ?_
          refine st V.assign ?_
          refine sn ?_
          repeat with_reducible refine inb_normal ?_
          refine thn_normal ?_
          refine rnd (n1 - 1) _ (by omega) (List.Sublist.refl _) ⟨k + 1, ?_, rfl, by omega⟩
          rw [hasC_take _ _ _ z7, ← Bool.or_assoc, k3, Bool.true_or]; simp
      ·
        have k2 := bp h2
        refine AW.exit ?_
        repeat with_reducible refine thn_exit ?_
        refine inb_exit ?_
        refine AW.region ?_
        refine st V.move ?_
        refine st (V.add64 (by omega)) ?_
        refine st V.assign ?_
        refine sn ?_
        repeat with_reducible refine inb_normal ?_
        refine thn_normal ?_
        refine rnd (n - 1) _ (by omega) (List.Sublist.refl _) ⟨i + 1, ?_, rfl, by omega⟩
        rw [hasD_take _ _ _ z4, List.take_of_length_le (by omega : d[i].cons.length ≤ k), Bool.or_assoc]; simp
    ·
      have k1 := bp h1
      refine AW.exit ?_
      repeat with_reducible refine thn_exit ?_
      refine inb_exit ?_
      refine AW.seq ?_
      refine AW.seq ?_
      refine AW.region ?_
      refine st V.assign ?_
      refine sn ?_
      refine AW.block ?_
      refine AW.loopL [5, 8] (43 :: 44 :: 45 :: 46 :: 47 :: 48 :: 49 :: 50 :: 51 :: 52 :: 53 :: 54 :: 55 :: 56 :: 57 :: 58 :: 59 :: []) (fun n vs M' H' => ∃ j : Nat, vs = [.bool ((decide (x.name = ⟨#[]⟩) || hasD x.name d) && knL d (x.args.take j)), .int .i64 (j : Int)] ∧ H' = H ∧ j + n = x.args.length) (x.args.length) (⟨0, by rw [List.take_of_length_le (by omega : d.length ≤ i)]; simp [knL], rfl, by omega⟩) ?_
      intro n2 Ml2 Hl2 iL2 u5 u8 hI2 u43 u44 u45 u46 u47 u48 u49 u50 u51 u52 u53 u54 u55 u56 u57 u58 u59
      obtain ⟨j, hv, hH, hj⟩ := hI2
      obtain rfl := hH.symm
      cases hv
      refine sa ?_
      refine AW.seq ?_
      refine AW.seq ?_
      refine AW.region ?_
      refine st V.move ?_
      refine st V.faz ?_
      first | refine st V.ld ?_ | refine sq V.lo ?_
      refine st V.len ?_
      refine st V.lss ?_
      refine sn ?_
      refine cond (fun h4 => ?_) (fun h4 => ?_)
      ·
        have k4 := bp h4
        refine AW.skip ?_
        refine AW.seq ?_
        refine AW.block ?_
        have z9 : j < x.args.length := by omega
        obtain ⟨ba, oa, hAa, ea⟩ := (VVT.up (M' := Ml2) hx).at j z9
        obtain ⟨Ax, cx, x0, x1, x2, xs⟩ := ea.get
        refine AW.region ?_
        refine st V.move ?_
        refine st V.move ?_
        refine onoff false rfl rfl (fun h5 => ?_) (fun h5 => ?_)
        ·
          have k5 := bp h5
          refine st V.move ?_
          refine on rfl h5 ?_
          refine st V.faz ?_
          refine on rfl h5 ?_
          first | refine st V.ld ?_ | refine sq V.lo ?_
          refine on rfl h5 ?_
          refine st V.move ?_
          refine on rfl h5 ?_
          refine st (V.ib j rfl z9 hAa) ?_
          refine on rfl h5 ?_
          first | refine st V.ldA ?_ | refine sq V.loA ?_
          refine on rfl h5 ?_
          refine se (S.call ?_)
          refine (r_known_c d z x.args[j] (by have := List.sizeOf_lt_of_mem (List.getElem_mem z9); cases x; simp [TT.args] at *; omega) _ _ Ad cd Ax cx hd.upD (VVT.up (x := x.args[j]) xs)).use ?_
          rintro v12 N12 G12 iz12 ⟨rfl, hG⟩
          obtain rfl := hG.symm
          refine st (V.pT h5) ?_
          refine st V.assign ?_
          refine sn ?_
          refine AW.region ?_
          refine st V.move ?_
          refine st (V.add64 (by omega)) ?_
          refine st V.assign ?_
          refine sn ?_
          repeat with_reducible refine inb_normal ?_
          refine thn_normal ?_
          refine rnd (n2 - 1) _ (by omega) (List.Sublist.refl _) ⟨j + 1, ?_, rfl, by omega⟩
          rw [knL_take _ _ _ z9, ← Bool.and_assoc, k5, Bool.true_and]; simp
        ·
          have k5 := bp h5
          refine off rfl h5 ?_
          refine off rfl h5 ?_
          refine off rfl h5 ?_
          refine off rfl h5 ?_
          refine off rfl h5 ?_
          refine off rfl h5 ?_
          refine st (V.pF h5) ?_
          refine st V.assign ?_
          refine sn ?_
          refine AW.region ?_
          refine st V.move ?_
          refine st (V.add64 (by omega)) ?_
          refine st V.assign ?_
          refine sn ?_
          repeat with_reducible refine inb_normal ?_
          refine thn_normal ?_
          refine rnd (n2 - 1) _ (by omega) (List.Sublist.refl _) ⟨j + 1, ?_, rfl, by omega⟩
          rw [knL_take _ _ _ z9, ← Bool.and_assoc, k5, Bool.false_and]; simp
      ·
        have k4 := bp h4
        refine AW.exit ?_
        repeat with_reducible refine thn_exit ?_
        refine inb_exit ?_
        refine AW.seq ?_
        refine AW.region ?_
        refine st V.move ?_
        refine st V.assign ?_
        refine sn ?_
        refine AW.ret ?_
        repeat with_reducible first | refine thn_ret ?_ | refine inb_ret ?_
        refine fin (Res.i1 rfl) ?_
        exact ⟨_, (by repeat first | exact List.Sublist.refl _ | apply List.Sublist.cons), by rw [knV_eq, conF_any, List.take_of_length_le (by omega : x.args.length ≤ j)], rfl⟩
end Go.Proofs.YtieaiheejhmbfaaGreatDoor.ML
