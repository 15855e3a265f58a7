/- Walks of functions of the program, in the abstract layer. No conditions. -/
import Derived.Test.YtieaiheejhmbfaaGreatDoorPk4
namespace Go.Proofs.YtieaiheejhmbfaaGreatDoor.ML
open Go.RowKit
set_option linter.unusedVariables false
set_option linter.unusedSimpArgs false
set_option maxHeartbeats 1600000 in
set_option synthInstance.maxHeartbeats 400000 in
set_option synthInstance.maxSize 100000 in
set_option maxRecDepth 100000 in
theorem same_c : ∀ (s : Nat) (a b : VT), SizeOf.sizeOf a < s → ∀ (M : Mem) (H : Heap) (Aa : Option Addr) (ca : Nat) (Ab : Option Addr) (cb : Nat), VV M Aa ca a → VV M Ab cb b →
    AC Tryz.prog 29 [.agg #[.int .i64 a.num, .int .i64 a.con, .slice Aa a.args.length ca], .agg #[.int .i64 b.num, .int .i64 b.con, .slice Ab b.args.length cb]] M H fun v _ H' => v = .bool (same a b) ∧ H' = H
  | 0, _, _, hs => by omega
  | s + 1, .mk an ac al, .mk bn bc bl, hs => by
    intro M H Aa ca Ab cb ha hb
    simp only [VT.num, VT.con, VT.args]
    refine AC.of (n := 44) Tryz.func29 rfl rfl ?_
    dsimp only [List.replicate, List.cons_append, List.nil_append]
    refine AW.seq ?_
    refine AW.region ?_
    refine se (S.boxM ?_); intro b2 M2 i2 j2
    refine se (S.boxM ?_); intro b3 M3 i3 j3
    refine st V.assign ?_
    refine sn ?_
    refine AW.seq ?_
    refine AW.seq ?_
    have ha := ha.up (M' := M3)
    have hb := hb.up (M' := M3)
    refine AW.region ?_
    refine st V.fa0 ?_
    first | refine st V.ld ?_ | refine sq V.lo ?_
    refine st V.fa0 ?_
    first | refine st V.ld ?_ | refine sq V.lo ?_
    refine st V.neq ?_
    refine st V.move ?_
    refine onoff true rfl rfl (fun h1 => ?_) (fun h1 => ?_)
    ·
      have k1 := bp h1
      refine st V.faz ?_
      refine on rfl h1 ?_
      first | refine st V.ld ?_ | refine sq V.lo ?_
      refine on rfl h1 ?_
      refine st V.faz ?_
      refine on rfl h1 ?_
      first | refine st V.ld ?_ | refine sq V.lo ?_
      refine on rfl h1 ?_
      refine st V.neq ?_
      refine st (V.pF h1) ?_
      refine st V.move ?_
      refine onoff true rfl rfl (fun h2 => ?_) (fun h2 => ?_)
      ·
        have k2 := bp h2
        refine st V.faz ?_
        refine on rfl h2 ?_
        first | refine st V.ld ?_ | refine sq V.lo ?_
        refine on rfl h2 ?_
        refine st V.len ?_
        refine on rfl h2 ?_
        refine st V.faz ?_
        refine on rfl h2 ?_
        first | refine st V.ld ?_ | refine sq V.lo ?_
        refine on rfl h2 ?_
        refine st V.len ?_
        refine on rfl h2 ?_
        refine st V.neq ?_
        refine st (V.pF h2) ?_
        refine sn ?_
        refine cond (fun h3 => ?_) (fun h3 => ?_)
        ·
          have k3 := bp h3
          refine AW.seq ?_
          refine AW.region ?_
          refine st V.assign ?_
          refine sn ?_
          refine AW.ret ?_
          repeat with_reducible first | refine thn_ret ?_ | refine inb_ret ?_
          refine fin (Res.i1 rfl) ?_
          refine ⟨_, (by repeat first | exact List.Sublist.refl _ | apply List.Sublist.cons), ?_, rfl⟩
          have h3 : al.length ≠ bl.length := fun e => by rw [e] at h3; simp at h3
          simp [same, sameL_bne h3]
        ·
          have k3 := bp h3
          refine AW.skip ?_
          refine AW.seq ?_
          refine AW.seq ?_
          refine AW.region ?_
          refine st V.faz ?_
          first | refine st V.ld ?_ | refine sq V.lo ?_
          refine st V.len ?_
          refine st V.move ?_
          refine sn ?_
          refine AW.block ?_
          refine AW.loopL [30] (4 :: 5 :: 31 :: 32 :: 33 :: 34 :: 35 :: 36 :: 37 :: 38 :: 39 :: 40 :: 41 :: 42 :: 43 :: 44 :: 45 :: []) (fun n vs M' H' => ∃ i : Nat, vs = [.int .i64 (i : Int)] ∧ H' = H ∧ i + n = al.length ∧ (∀ j (h : j < al.length) (h' : j < bl.length), j < i → same al[j] bl[j] = true)) (al.length) (⟨0, rfl, rfl, by omega, fun j _ _ h => by omega⟩) ?_
          intro n Ml Hl iL u30 hI u4 u5 u31 u32 u33 u34 u35 u36 u37 u38 u39 u40 u41 u42 u43 u44 u45
          obtain ⟨i, hv, rfl, hi, hall⟩ := hI
          cases hv
          refine sa ?_
          refine AW.seq ?_
          refine AW.region ?_
          refine st V.lss ?_
          refine sn ?_
          refine AW.seq ?_
          refine cond (fun h4 => ?_) (fun h4 => ?_)
          ·
            have k4 := bp h4
            refine AW.skip ?_
            refine AW.seq ?_
            refine AW.block ?_
            refine AW.seq ?_
            refine AW.region ?_
            refine st V.move ?_
            refine st V.assign ?_
            refine sn ?_
            refine AW.seq ?_
            have e3 : al.length = bl.length := by have := (by simpa using h3 : (al.length : Int) = bl.length); omega
            have e4 : i < al.length := by simpa using h4
            have ha := ha.up (M' := Ml)
            have hb := hb.up (M' := Ml)
            have hbd : al.length ≤ _ := ha.bd
            obtain ⟨ba, oa, hAa, ea⟩ := ha.at i (by show i < al.length; omega)
            obtain ⟨bb, ob, hAb, eb⟩ := hb.at i (by show i < bl.length; omega)
            simp only [VT.args] at ea eb
            obtain ⟨Ax, cx, x0, x1, x2, xs⟩ := ea.get
            obtain ⟨Ay, cy, y0, y1, y2, ys⟩ := eb.get
            refine AW.regionD mx true [0, 1, 2, 3, 4, 5, 6, 7, 8, 9, 10, 11] [[], [0], [], [0, 1, 2], [0, 1, 2, 3], [], [5], [], [5, 6, 7], [5, 6, 7, 8], [0, 1, 2, 3, 4, 5, 6, 7, 8, 9], [0, 1, 2, 3, 4, 5, 6, 7, 8, 9, 10]] (by kernel_rfl) ?_
            refine D.p rfl rfl V.faz ?_
            refine D.p rfl rfl V.ld ?_
            refine D.p rfl rfl V.move ?_
            refine D.p rfl rfl (V.ib i rfl (by omega) hAa) ?_
            refine D.p rfl rfl V.ldA ?_
            refine D.p rfl rfl V.faz ?_
            refine D.p rfl rfl V.ld ?_
            refine D.p rfl rfl V.move ?_
            refine D.p rfl rfl (V.ib i rfl (by omega) hAb) ?_
            refine D.p rfl rfl V.ldA ?_
            refine D.e rfl rfl (S.call ?_)
            refine (same_c s _ _ (by have := List.sizeOf_lt_of_mem (List.getElem_mem (l := al) (n := i) (by omega)); simp at hs; omega) _ _ _ _ _ _ xs ys).mono ?_
            rintro v M1 H1 i1 ⟨rfl, rfl⟩
            refine D.p rfl rfl V.not ?_
            refine D.nl ?_
            refine cond (fun h5 => ?_) (fun h5 => ?_)
            ·
              have k5 := bp h5
              refine AW.seq ?_
              refine AW.region ?_
              refine st V.assign ?_
              refine sn ?_
              refine AW.ret ?_
              repeat with_reducible first | refine thn_ret ?_ | refine inb_ret ?_
              refine fin (Res.i1 rfl) ?_
              refine ⟨_, (by repeat first | exact List.Sublist.refl _ | apply List.Sublist.cons), ?_, rfl⟩
              have h5' : same al[i] bl[i] = false := by simpa using h5
              rw [same, sameL_at i e4 (by omega) h5']
              simp
            ·
              have k5 := bp h5
              refine AW.skip ?_
              refine AW.region ?_
              refine st (V.add64 (by omega)) ?_
              refine st V.move ?_
              refine sn ?_
              refine thn_normal ?_
              refine rnd (n - 1) _ (by omega) (List.Sublist.refl _) ⟨i + 1, by simp, rfl, by omega, fun j h h' hj => ?_⟩
              rcases Nat.lt_or_ge j i with hji | hji
              · exact hall j h h' hji
              · obtain rfl : j = i := by omega
                simpa using h5
          ·
            have k4 := bp h4
            refine AW.exit ?_
            repeat with_reducible refine thn_exit ?_
            refine inb_exit ?_
            refine AW.seq ?_
            refine AW.region ?_
            refine st V.assign ?_
            refine sn ?_
            refine AW.ret ?_
            repeat with_reducible first | refine thn_ret ?_ | refine inb_ret ?_
            refine fin (Res.i1 rfl) ?_
            refine ⟨_, (by repeat first | exact List.Sublist.refl _ | apply List.Sublist.cons), ?_, rfl⟩
            have e3 : al.length = bl.length := by have := (by simpa using h3 : (al.length : Int) = bl.length); omega
            have e4 : al.length ≤ i := by simpa using h4
            have hL : sameL al bl = true := (sameL_iff al bl).2 ⟨e3, fun j h h' => hall j h h' (by omega)⟩
            simp at h1 h2
            simp [same, hL, h1, h2]
      ·
        have k2 := bp h2
        refine off rfl h2 ?_
        refine off rfl h2 ?_
        refine off rfl h2 ?_
        refine off rfl h2 ?_
        refine off rfl h2 ?_
        refine off rfl h2 ?_
        refine st (V.pT h2) ?_
        refine sn ?_
        refine cond (fun _ => ?_) (fun h => by cases h)
        refine AW.seq ?_
        refine AW.region ?_
        refine st V.assign ?_
        refine sn ?_
        refine AW.ret ?_
        repeat with_reducible first | refine thn_ret ?_ | refine inb_ret ?_
        refine fin (Res.i1 rfl) ?_
        refine ⟨_, (by repeat first | exact List.Sublist.refl _ | apply List.Sublist.cons), ?_, rfl⟩
        simp at h2
        simp [same, h2]
    ·
      have k1 := bp h1
      refine off rfl h1 ?_
      refine off rfl h1 ?_
      refine off rfl h1 ?_
      refine off rfl h1 ?_
      refine st (V.pT h1) ?_
      refine st V.move ?_
      refine off rfl rfl ?_
      refine off rfl rfl ?_
      refine off rfl rfl ?_
      refine off rfl rfl ?_
      refine off rfl rfl ?_
      refine off rfl rfl ?_
      refine off rfl rfl ?_
      refine st (V.pT rfl) ?_
      refine sn ?_
      refine cond (fun _ => ?_) (fun h => by cases h)
      refine AW.seq ?_
      refine AW.region ?_
      refine st V.assign ?_
      refine sn ?_
      refine AW.ret ?_
      repeat with_reducible first | refine thn_ret ?_ | refine inb_ret ?_
      refine fin (Res.i1 rfl) ?_
      refine ⟨_, (by repeat first | exact List.Sublist.refl _ | apply List.Sublist.cons), ?_, rfl⟩
      simp at h1
      simp [same, h1]
set_option maxHeartbeats 1600000 in
set_option synthInstance.maxHeartbeats 400000 in
set_option synthInstance.maxSize 100000 in
set_option maxRecDepth 100000 in
theorem idxT_c (g : Nat) [Fn Tryz.prog g] (caps : List Value) (p : Int → Bool) (M : Mem) (H : Heap) (A : Option Addr) (c : Nat) (l : List Int) (hl : RdS 1 (RdI M) A c l)
    (hp : ∀ (M' : Mem) [LeT M M'] (x : Int), x ∈ l → AC Tryz.prog g (.int .i64 x :: caps) M' H fun v _ H' => v = .bool (p x) ∧ H' = H) :
    AC Tryz.prog 116 [.slice A l.length c, .func (.func g) #[] caps.toArray] M H fun v _ H' => v = .int .i64 (idxP p l) ∧ H' = H := by
  refine AC.of (n := 17) Tryz.func116 rfl rfl ?_
  dsimp only [List.replicate, List.cons_append, List.nil_append]
  refine AW.seq ?_
  refine AW.region ?_
  refine st V.assign ?_
  refine sn ?_
  refine AW.seq ?_
  refine AW.seq ?_
  refine AW.region ?_
  refine st V.move ?_
  refine st V.len ?_
  refine st V.move ?_
  refine sn ?_
  refine AW.block ?_
  refine AW.loopL [8] (4 :: 5 :: 9 :: 10 :: 11 :: 12 :: 13 :: 14 :: 15 :: 16 :: 17 :: 18 :: []) (fun n vs M' H' => ∃ i : Nat, vs = [.int .i64 (i : Int)] ∧ H' = H ∧ i + n = l.length ∧ (∀ j (h : j < l.length), j < i → p l[j] = false)) (l.length) (⟨0, rfl, rfl, by omega, fun j _ h => by omega⟩) ?_
  intro n Ml Hl iL u8 hI u4 u5 u9 u10 u11 u12 u13 u14 u15 u16 u17 u18
  obtain ⟨i, hv, rfl, hi, hall⟩ := hI
  cases hv
  refine sa ?_
  refine AW.seq ?_
  refine AW.region ?_
  refine st V.lss ?_
  refine sn ?_
  refine AW.seq ?_
  refine cond (fun h1 => ?_) (fun h1 => ?_)
  ·
    have k1 := bp h1
    refine AW.skip ?_
    refine AW.seq ?_
    refine AW.block ?_
    refine AW.seq ?_
    refine AW.region ?_
    refine st V.move ?_
    refine st V.assign ?_
    refine sn ?_
    refine AW.seq ?_
    have e4 : i < l.length := by simpa using h1
    have hbd := hl.bd
    obtain ⟨b, o, hA, e⟩ := (hl.upI (M' := Ml)).at i e4
    have e : Mk Ml b (o + i * 1) (.int .i64 l[i]) := e
    refine AW.region ?_
    refine st V.move ?_
    refine st V.move ?_
    refine st V.move ?_
    refine st (V.ib i rfl e4 hA) ?_
    first | refine st V.ld ?_ | refine sq V.lo ?_
    refine se (S.call ?_)
    refine (hp Ml l[i] (List.getElem_mem e4)).mono ?_
    rintro v M1 i1 iM ⟨rfl, rfl⟩
    refine sn ?_
    refine cond (fun h2 => ?_) (fun h2 => ?_)
    ·
      have k2 := bp h2
      refine AW.seq ?_
      refine AW.region ?_
      refine st V.move ?_
      refine st V.assign ?_
      refine sn ?_
      refine AW.ret ?_
      repeat with_reducible first | refine thn_ret ?_ | refine inb_ret ?_
      refine fin (Res.i1 rfl) ?_
      exact ⟨_, (by repeat first | exact List.Sublist.refl _ | apply List.Sublist.cons), by rw [idxP_at p l i e4 (by simpa using h2) (fun j h' hj => hall j h' hj)], rfl⟩
    ·
      have k2 := bp h2
      refine AW.skip ?_
      refine AW.region ?_
      refine st (V.add64 (by omega)) ?_
      refine st V.move ?_
      refine sn ?_
      refine thn_normal ?_
      refine rnd (n - 1) _ (by omega) (List.Sublist.refl _) ⟨i + 1, by simp, rfl, by omega, fun j h hj => ?_⟩
      rcases Nat.lt_or_ge j i with hji | hji
      · exact hall j h hji
      · obtain rfl : j = i := by omega
        simpa using h2
  ·
    have k1 := bp h1
    refine AW.exit ?_
    repeat with_reducible refine thn_exit ?_
    refine inb_exit ?_
    refine AW.seq ?_
    refine AW.region ?_
    refine st V.assign ?_
    refine sn ?_
    refine AW.ret ?_
    repeat with_reducible first | refine thn_ret ?_ | refine inb_ret ?_
    refine fin (Res.i1 rfl) ?_
    exact ⟨_, (by repeat first | exact List.Sublist.refl _ | apply List.Sublist.cons), by rw [idxP_none p l (fun j h' => hall j h' (by omega))], rfl⟩
set_option maxHeartbeats 1600000 in
set_option synthInstance.maxHeartbeats 400000 in
set_option synthInstance.maxSize 100000 in
set_option maxRecDepth 100000 in
theorem exists_c (M : Mem) (H : Heap) (A : Option Addr) (c : Nat) (n : Nat) (t : Int) :
    AC Tryz.prog 95 [.slice A n c, .int .i64 t] M H fun v M' H' => v = .bool (decide (0 ≤ t ∧ t ≤ n)) ∧ H' = H := by
  refine AC.of (n := 11) Tryz.func95 rfl rfl ?_
  dsimp only [List.replicate, List.cons_append, List.nil_append]
  refine AW.seq ?_
  refine AW.region ?_
  refine st V.assign ?_
  refine sn ?_
  refine AW.seq ?_
  refine AW.region ?_
  refine st V.move ?_
  refine st V.geq ?_
  refine st V.move ?_
  refine onoff false rfl rfl (fun h1 => ?_) (fun h1 => ?_)
  ·
    have k1 := bp h1
    refine st V.move ?_
    refine on rfl h1 ?_
    refine st V.move ?_
    refine on rfl h1 ?_
    refine st V.len ?_
    refine on rfl h1 ?_
    refine st V.leq ?_
    refine st (V.pT h1) ?_
    refine st V.assign ?_
    refine sn ?_
    refine AW.ret ?_
    repeat with_reducible first | refine thn_ret ?_ | refine inb_ret ?_
    refine fin (Res.i1 rfl) ?_
    exact ⟨_, (by repeat first | exact List.Sublist.refl _ | apply List.Sublist.cons), by simp; omega, rfl⟩
  ·
    have k1 := bp h1
    refine off rfl h1 ?_
    refine off rfl h1 ?_
    refine off rfl h1 ?_
    refine st (V.pF h1) ?_
    refine st V.assign ?_
    refine sn ?_
    refine AW.ret ?_
    repeat with_reducible first | refine thn_ret ?_ | refine inb_ret ?_
    refine fin (Res.i1 rfl) ?_
    exact ⟨_, (by repeat first | exact List.Sublist.refl _ | apply List.Sublist.cons), by simp; omega, rfl⟩
set_option maxHeartbeats 1600000 in
set_option synthInstance.maxHeartbeats 400000 in
set_option synthInstance.maxSize 100000 in
set_option maxRecDepth 100000 in
theorem cons_c (M : Mem) (H : Heap) (A : Option Addr) (c : Nat) (d : List DT) (t : Int) (hd : RdS 2 (RdD M) A c d) :
    AC Tryz.prog 107 [.slice A d.length c, .int .i64 t] M H fun v M' H' => (∃ A' c', v = .slice A' (consF d t).length c' ∧ RdS 2 (RdC M') A' c' (consF d t)) ∧ H' = H := by
  refine AC.of (n := 17) Tryz.func107 rfl rfl ?_
  dsimp only [List.replicate, List.cons_append, List.nil_append]
  refine AW.seq ?_
  refine AW.region ?_
  refine st V.assign ?_
  refine sn ?_
  refine AW.seq ?_
  refine AW.seq ?_
  refine AW.region ?_
  refine st V.move ?_
  refine st V.lss ?_
  refine st V.move ?_
  refine onoff true rfl rfl (fun h1 => ?_) (fun h1 => ?_)
  ·
    have k1 := bp h1
    refine st V.move ?_
    refine on rfl h1 ?_
    refine st V.move ?_
    refine on rfl h1 ?_
    refine st V.len ?_
    refine on rfl h1 ?_
    refine st V.gtr ?_
    refine st (V.pF h1) ?_
    refine sn ?_
    refine cond (fun h2 => ?_) (fun h2 => ?_)
    ·
      have k2 := bp h2
      refine AW.seq ?_
      refine AW.region ?_
      refine st V.assign ?_
      refine sn ?_
      refine AW.ret ?_
      repeat with_reducible first | refine thn_ret ?_ | refine inb_ret ?_
      refine fin (Res.i1 rfl) ?_
      rw [consF, if_pos (.inr k2)]
      exact ⟨_, (by repeat first | exact List.Sublist.refl _ | apply List.Sublist.cons), ⟨none, 0, rfl, RdS.nil⟩, rfl⟩
    ·
      have k2 := bp h2
      refine AW.skip ?_
      refine AW.seq ?_
      have hbd := hd.bd
      obtain ⟨i, rfl⟩ : ∃ i : Nat, t = (i : Int) + 1 := ⟨(t - 1).toNat, by omega⟩
      obtain ⟨b, o, hA, e0, eb, A', c', e1, e2⟩ := hd.at i (by omega)
      refine AW.region ?_
      refine st V.move ?_
      refine st V.move ?_
      refine st (V.sub64 (by omega)) ?_
      refine st (V.ib i (by omega) (by omega) hA) ?_
      refine st V.fa ?_
      first | refine st V.ld ?_ | refine sq V.lo ?_
      refine st V.assign ?_
      refine sn ?_
      refine AW.ret ?_
      repeat with_reducible first | refine thn_ret ?_ | refine inb_ret ?_
      refine fin (Res.i1 rfl) ?_
      have e3 : consF d ((i : Int) + 1) = d[i].cons := by rw [consF, if_neg (by omega)]; simp [List.getD, List.getElem?_eq_getElem (show i < d.length by omega)]
      rw [e3]
      exact ⟨_, (by repeat first | exact List.Sublist.refl _ | apply List.Sublist.cons), ⟨_, _, rfl, e2⟩, rfl⟩
  ·
    have k1 := bp h1
    refine off rfl h1 ?_
    refine off rfl h1 ?_
    refine off rfl h1 ?_
    refine st (V.pT h1) ?_
    refine sn ?_
    refine cond (fun _ => ?_) (fun h => by cases h)
    refine AW.seq ?_
    refine AW.region ?_
    refine st V.assign ?_
    refine sn ?_
    refine AW.ret ?_
    repeat with_reducible first | refine thn_ret ?_ | refine inb_ret ?_
    refine fin (Res.i1 rfl) ?_
    rw [consF, if_pos (.inl k1)]
    exact ⟨_, (by repeat first | exact List.Sublist.refl _ | apply List.Sublist.cons), ⟨none, 0, rfl, RdS.nil⟩, rfl⟩
set_option maxHeartbeats 1600000 in
set_option synthInstance.maxHeartbeats 400000 in
set_option synthInstance.maxSize 100000 in
set_option maxRecDepth 100000 in
theorem idxC_c (g : Nat) [Fn Tryz.prog g] (caps : List Value) (p : CT → Bool) (M : Mem) (H : Heap) (A : Option Addr) (c : Nat) (l : List CT) (hl : RdS 2 (RdC M) A c l)
    (hp : ∀ (M' : Mem) [LeT M M'] (x : CT) (B : Option Addr) (k : Nat), x ∈ l → RdS 1 (RdI M') B k x.fields → x.name.size ≤ 140737488355328 → AC Tryz.prog g (.agg #[.string x.name, .slice B x.fields.length k] :: caps) M' H fun v _ H' => v = .bool (p x) ∧ H' = H) :
    AC Tryz.prog 76 [.slice A l.length c, .func (.func g) #[] caps.toArray] M H fun v _ H' => v = .int .i64 (idxP p l) ∧ H' = H := by
  refine AC.of (n := 17) Tryz.func76 rfl rfl ?_
  dsimp only [List.replicate, List.cons_append, List.nil_append]
  refine AW.seq ?_
  refine AW.region ?_
  refine st V.assign ?_
  refine sn ?_
  refine AW.seq ?_
  refine AW.seq ?_
  refine AW.region ?_
  refine st V.move ?_
  refine st V.len ?_
  refine st V.move ?_
  refine sn ?_
  refine AW.block ?_
  refine AW.loopL [8] (4 :: 5 :: 9 :: 10 :: 11 :: 12 :: 13 :: 14 :: 15 :: 16 :: 17 :: 18 :: []) (fun n vs M' H' => ∃ i : Nat, vs = [.int .i64 (i : Int)] ∧ H' = H ∧ i + n = l.length ∧ (∀ j (h : j < l.length), j < i → p l[j] = false)) (l.length) (⟨0, rfl, rfl, by omega, fun j _ h => by omega⟩) ?_
  intro n Ml Hl iL u8 hI u4 u5 u9 u10 u11 u12 u13 u14 u15 u16 u17 u18
  obtain ⟨i, hv, rfl, hi, hall⟩ := hI
  cases hv
  refine sa ?_
  refine AW.seq ?_
  refine AW.region ?_
  refine st V.lss ?_
  refine sn ?_
  refine AW.seq ?_
  refine cond (fun h1 => ?_) (fun h1 => ?_)
  ·
    have k1 := bp h1
    refine AW.skip ?_
    refine AW.seq ?_
    refine AW.block ?_
    refine AW.seq ?_
    refine AW.region ?_
    refine st V.move ?_
    refine st V.assign ?_
    refine sn ?_
    refine AW.seq ?_
    have e4 : i < l.length := by simpa using h1
    have hbd := hl.bd
    obtain ⟨b, o, hA, e0, eb, B, k, e1, e2⟩ := (hl.upC (M' := Ml)).at i e4
    refine AW.region ?_
    refine st V.move ?_
    refine st V.move ?_
    refine st V.move ?_
    refine st (V.ib i rfl e4 hA) ?_
    first | refine st V.ldA ?_ | refine sq V.loA ?_
    refine se (S.call ?_)
    refine (hp Ml l[i] B k (List.getElem_mem e4) e2 eb).mono ?_
    rintro v M1 i1 iM ⟨rfl, rfl⟩
    refine sn ?_
    refine cond (fun h2 => ?_) (fun h2 => ?_)
    ·
      have k2 := bp h2
      refine AW.seq ?_
      refine AW.region ?_
      refine st V.move ?_
      refine st V.assign ?_
      refine sn ?_
      refine AW.ret ?_
      repeat with_reducible first | refine thn_ret ?_ | refine inb_ret ?_
      refine fin (Res.i1 rfl) ?_
      exact ⟨_, (by repeat first | exact List.Sublist.refl _ | apply List.Sublist.cons), by rw [idxP_at p l i e4 (by simpa using h2) (fun j h' hj => hall j h' hj)], rfl⟩
    ·
      have k2 := bp h2
      refine AW.skip ?_
      refine AW.region ?_
      refine st (V.add64 (by omega)) ?_
      refine st V.move ?_
      refine sn ?_
      refine thn_normal ?_
      refine rnd (n - 1) _ (by omega) (List.Sublist.refl _) ⟨i + 1, by simp, rfl, by omega, fun j h hj => ?_⟩
      rcases Nat.lt_or_ge j i with hji | hji
      · exact hall j h hji
      · obtain rfl : j = i := by omega
        simpa using h2
  ·
    have k1 := bp h1
    refine AW.exit ?_
    repeat with_reducible refine thn_exit ?_
    refine inb_exit ?_
    refine AW.seq ?_
    refine AW.region ?_
    refine st V.assign ?_
    refine sn ?_
    refine AW.ret ?_
    repeat with_reducible first | refine thn_ret ?_ | refine inb_ret ?_
    refine fin (Res.i1 rfl) ?_
    exact ⟨_, (by repeat first | exact List.Sublist.refl _ | apply List.Sublist.cons), by rw [idxP_none p l (fun j h' => hall j h' (by omega))], rfl⟩
set_option maxHeartbeats 1600000 in
set_option synthInstance.maxHeartbeats 400000 in
set_option synthInstance.maxSize 100000 in
set_option maxRecDepth 100000 in
theorem conC_c (g : Nat) [Fn Tryz.prog g] (caps : List Value) (p : CT → Bool) (M : Mem) (H : Heap) (A : Option Addr) (c : Nat) (l : List CT) (hl : RdS 2 (RdC M) A c l)
    (hp : ∀ (M' : Mem) [LeT M M'] (x : CT) (B : Option Addr) (k : Nat), x ∈ l → RdS 1 (RdI M') B k x.fields → x.name.size ≤ 140737488355328 → AC Tryz.prog g (.agg #[.string x.name, .slice B x.fields.length k] :: caps) M' H fun v _ H' => v = .bool (p x) ∧ H' = H) :
    AC Tryz.prog 112 [.slice A l.length c, .func (.func g) #[] caps.toArray] M H fun v _ H' => v = .bool (l.any p) ∧ H' = H := by
  refine AC.of (n := 7) Tryz.func112 rfl rfl ?_
  dsimp only [List.replicate, List.cons_append, List.nil_append]
  refine AW.seq ?_
  refine AW.region ?_
  refine st V.assign ?_
  refine sn ?_
  refine AW.seq ?_
  refine AW.region ?_
  refine st V.move ?_
  refine st V.move ?_
  refine se (S.call ?_)
  refine (idxC_c g caps p M H A c l hl hp).mono ?_
  rintro v M1 i1 iM ⟨rfl, rfl⟩
  refine st V.geq ?_
  refine st V.assign ?_
  refine sn ?_
  refine AW.ret ?_
  repeat with_reducible first | refine thn_ret ?_ | refine inb_ret ?_
  refine fin (Res.i1 rfl) ?_
  exact ⟨_, (by repeat first | exact List.Sublist.refl _ | apply List.Sublist.cons), by rw [← idxP_any], rfl⟩
set_option maxHeartbeats 1600000 in
set_option synthInstance.maxHeartbeats 400000 in
set_option synthInstance.maxSize 100000 in
set_option maxRecDepth 100000 in
theorem conT_c (g : Nat) [Fn Tryz.prog g] (caps : List Value) (p : Int → Bool) (M : Mem) (H : Heap) (A : Option Addr) (c : Nat) (l : List Int) (hl : RdS 1 (RdI M) A c l)
    (hp : ∀ (M' : Mem) [LeT M M'] (x : Int), x ∈ l → AC Tryz.prog g (.int .i64 x :: caps) M' H fun v _ H' => v = .bool (p x) ∧ H' = H) :
    AC Tryz.prog 93 [.slice A l.length c, .func (.func g) #[] caps.toArray] M H fun v _ H' => v = .bool (l.any p) ∧ H' = H := by
  refine AC.of (n := 7) Tryz.func93 rfl rfl ?_
  dsimp only [List.replicate, List.cons_append, List.nil_append]
  refine AW.seq ?_
  refine AW.region ?_
  refine st V.assign ?_
  refine sn ?_
  refine AW.seq ?_
  refine AW.region ?_
  refine st V.move ?_
  refine st V.move ?_
  refine se (S.call ?_)
  refine (idxT_c g caps p M H A c l hl hp).mono ?_
  rintro v M1 i1 iM ⟨rfl, rfl⟩
  refine st V.geq ?_
  refine st V.assign ?_
  refine sn ?_
  refine AW.ret ?_
  repeat with_reducible first | refine thn_ret ?_ | refine inb_ret ?_
  refine fin (Res.i1 rfl) ?_
  exact ⟨_, (by repeat first | exact List.Sublist.refl _ | apply List.Sublist.cons), by rw [← idxP_any], rfl⟩
set_option maxHeartbeats 1600000 in
set_option synthInstance.maxHeartbeats 400000 in
set_option synthInstance.maxSize 100000 in
set_option maxRecDepth 100000 in
theorem idxV_c (t : Int) (M : Mem) (H : Heap) (A : Option Addr) (c : Nat) (l : List Int) (hl : RdS 1 (RdI M) A c l) :
    AC Tryz.prog 130 [.slice A l.length c, .int .i64 t] M H fun v _ H' => v = .int .i64 (idxP (fun x => decide (t = x)) l) ∧ H' = H := by
  refine AC.of (n := 17) Tryz.func130 rfl rfl ?_
  dsimp only [List.replicate, List.cons_append, List.nil_append]
  refine AW.seq ?_
  refine AW.region ?_
  refine st V.assign ?_
  refine sn ?_
  refine AW.seq ?_
  refine AW.seq ?_
  refine AW.region ?_
  refine st V.move ?_
  refine st V.len ?_
  refine st V.move ?_
  refine sn ?_
  refine AW.block ?_
  refine AW.loopL [8] (4 :: 5 :: 9 :: 10 :: 11 :: 12 :: 13 :: 14 :: 15 :: 16 :: 17 :: 18 :: []) (fun n vs M' H' => ∃ i : Nat, vs = [.int .i64 (i : Int)] ∧ H' = H ∧ i + n = l.length ∧ (∀ j (h : j < l.length), j < i → decide (t = l[j]) = false)) (l.length) (⟨0, rfl, rfl, by omega, fun j _ h => by omega⟩) ?_
  intro n Ml Hl iL u8 hI u4 u5 u9 u10 u11 u12 u13 u14 u15 u16 u17 u18
  obtain ⟨i, hv, rfl, hi, hall⟩ := hI
  cases hv
  refine sa ?_
  refine AW.seq ?_
  refine AW.region ?_
  refine st V.lss ?_
  refine sn ?_
  refine AW.seq ?_
  refine cond (fun h1 => ?_) (fun h1 => ?_)
  ·
    have k1 := bp h1
    refine AW.skip ?_
    refine AW.seq ?_
    refine AW.block ?_
    refine AW.seq ?_
    refine AW.region ?_
    refine st V.move ?_
    refine st V.assign ?_
    refine sn ?_
    refine AW.seq ?_
    have e4 : i < l.length := by simpa using h1
    have hbd := hl.bd
    obtain ⟨b, o, hA, e⟩ := (hl.upI (M' := Ml)).at i e4
    have e : Mk Ml b (o + i * 1) (.int .i64 l[i]) := e
    refine AW.region ?_
    refine st V.move ?_
    refine st V.move ?_
    refine st V.move ?_
    refine st (V.ib i rfl e4 hA) ?_
    first | refine st V.ld ?_ | refine sq V.lo ?_
    refine st V.eql ?_
    refine sn ?_
    refine cond (fun h2 => ?_) (fun h2 => ?_)
    ·
      have k2 := bp h2
      refine AW.seq ?_
      refine AW.region ?_
      refine st V.move ?_
      refine st V.assign ?_
      refine sn ?_
      refine AW.ret ?_
      repeat with_reducible first | refine thn_ret ?_ | refine inb_ret ?_
      refine fin (Res.i1 rfl) ?_
      exact ⟨_, (by repeat first | exact List.Sublist.refl _ | apply List.Sublist.cons), by rw [idxP_at _ l i e4 (by simpa using h2) (fun j h' hj => hall j h' hj)], rfl⟩
    ·
      have k2 := bp h2
      refine AW.skip ?_
      refine AW.region ?_
      refine st (V.add64 (by omega)) ?_
      refine st V.move ?_
      refine sn ?_
      refine thn_normal ?_
      refine rnd (n - 1) _ (by omega) (List.Sublist.refl _) ⟨i + 1, by simp, rfl, by omega, fun j h hj => ?_⟩
      rcases Nat.lt_or_ge j i with hji | hji
      · exact hall j h hji
      · obtain rfl : j = i := by omega
        simpa using h2
  ·
    have k1 := bp h1
    refine AW.exit ?_
    repeat with_reducible refine thn_exit ?_
    refine inb_exit ?_
    refine AW.seq ?_
    refine AW.region ?_
    refine st V.assign ?_
    refine sn ?_
    refine AW.ret ?_
    repeat with_reducible first | refine thn_ret ?_ | refine inb_ret ?_
    refine fin (Res.i1 rfl) ?_
    exact ⟨_, (by repeat first | exact List.Sublist.refl _ | apply List.Sublist.cons), by rw [idxP_none _ l (fun j h' => hall j h' (by omega))], rfl⟩
set_option maxHeartbeats 1600000 in
set_option synthInstance.maxHeartbeats 400000 in
set_option synthInstance.maxSize 100000 in
set_option maxRecDepth 100000 in
theorem conV_c (t : Int) (M : Mem) (H : Heap) (A : Option Addr) (c : Nat) (l : List Int) (hl : RdS 1 (RdI M) A c l) :
    AC Tryz.prog 108 [.slice A l.length c, .int .i64 t] M H fun v _ H' => v = .bool (l.any fun x => decide (t = x)) ∧ H' = H := by
  refine AC.of (n := 7) Tryz.func108 rfl rfl ?_
  dsimp only [List.replicate, List.cons_append, List.nil_append]
  refine AW.seq ?_
  refine AW.region ?_
  refine st V.assign ?_
  refine sn ?_
  refine AW.seq ?_
  refine AW.region ?_
  refine st V.move ?_
  refine st V.move ?_
  refine se (S.call ?_)
  refine (idxV_c t M H A c l hl).mono ?_
  rintro v M1 i1 iM ⟨rfl, rfl⟩
  refine st V.geq ?_
  refine st V.assign ?_
  refine sn ?_
  refine AW.ret ?_
  repeat with_reducible first | refine thn_ret ?_ | refine inb_ret ?_
  refine fin (Res.i1 rfl) ?_
  exact ⟨_, (by repeat first | exact List.Sublist.refl _ | apply List.Sublist.cons), by rw [← idxP_any], rfl⟩
set_option maxHeartbeats 1600000 in
set_option synthInstance.maxHeartbeats 400000 in
set_option synthInstance.maxSize 100000 in
set_option maxRecDepth 100000 in
theorem many1_c (M : Mem) (H : Heap) (nm : ByteArray) (A : Option Addr) (n c : Nat) :
    AC Tryz.prog 113 [.agg #[.string nm, .slice A n c]] M H fun v _ H' => v = .bool (decide (6 < (n : Int))) ∧ H' = H := by
  refine AC.of (n := 6) Tryz.func113 rfl rfl ?_
  dsimp only [List.replicate, List.cons_append, List.nil_append]
  refine AW.seq ?_
  refine AW.region ?_
  refine se (S.boxM ?_); intro b1 M1 i1 j1
  refine st V.assign ?_
  refine sn ?_
  refine AW.seq ?_
  refine AW.region ?_
  refine st V.faz ?_
  first | refine st V.ld ?_ | refine sq V.lo ?_
  refine st V.len ?_
  refine st V.gtr ?_
  refine st V.assign ?_
  refine sn ?_
  refine AW.ret ?_
  repeat with_reducible first | refine thn_ret ?_ | refine inb_ret ?_
  refine fin (Res.i1 rfl) ?_
  exact ⟨_, (by repeat first | exact List.Sublist.refl _ | apply List.Sublist.cons), rfl, rfl⟩
set_option maxHeartbeats 1600000 in
set_option synthInstance.maxHeartbeats 400000 in
set_option synthInstance.maxSize 100000 in
set_option maxRecDepth 100000 in
theorem many_c (M : Mem) (H : Heap) (A : Option Addr) (c : Nat) (d : List DT) (hd : RdS 2 (RdD M) A c d) :
    AC Tryz.prog 90 [.slice A d.length c] M H fun v _ H' => v = .bool (manyF d) ∧ H' = H := by
  refine AC.of (n := 23) Tryz.func90 rfl rfl ?_
  dsimp only [List.replicate, List.cons_append, List.nil_append]
  refine AW.seq ?_
  refine AW.region ?_
  refine st V.assign ?_
  refine sn ?_
  refine AW.seq ?_
  refine AW.seq ?_
  refine AW.region ?_
  refine st V.move ?_
  refine st V.len ?_
  refine st V.gtr ?_
  refine sn ?_
  refine cond (fun h1 => ?_) (fun h1 => ?_)
  ·
    have k1 := bp h1
    refine AW.seq ?_
    refine AW.region ?_
    refine st V.assign ?_
    refine sn ?_
    refine AW.ret ?_
    repeat with_reducible first | refine thn_ret ?_ | refine inb_ret ?_
    refine fin (Res.i1 rfl) ?_
    exact ⟨_, (by repeat first | exact List.Sublist.refl _ | apply List.Sublist.cons), by rw [manyF, h1]; rfl, rfl⟩
  ·
    have k1 := bp h1
    refine AW.skip ?_
    refine AW.seq ?_
    refine AW.seq ?_
    refine AW.region ?_
    refine st V.move ?_
    refine st V.len ?_
    refine st V.move ?_
    refine sn ?_
    refine AW.block ?_
    refine AW.loopL [10] (2 :: 4 :: 11 :: 12 :: 13 :: 14 :: 15 :: 16 :: 17 :: 18 :: 19 :: 20 :: 21 :: 22 :: 23 :: []) (fun n vs M' H' => ∃ i : Nat, vs = [.int .i64 (i : Int)] ∧ H' = H ∧ i + n = d.length ∧ (∀ j (h : j < d.length), j < i → many0 d[j] = false)) (d.length) (⟨0, rfl, rfl, by omega, fun j _ h => by omega⟩) ?_
    intro n Ml Hl iL u10 hI u2 u4 u11 u12 u13 u14 u15 u16 u17 u18 u19 u20 u21 u22 u23
    obtain ⟨i, hv, rfl, hi, hall⟩ := hI
    cases hv
    refine sa ?_
    refine AW.seq ?_
    refine AW.region ?_
    refine st V.lss ?_
    refine sn ?_
    refine AW.seq ?_
    refine cond (fun h2 => ?_) (fun h2 => ?_)
    ·
      have k2 := bp h2
      refine AW.skip ?_
      refine AW.seq ?_
      refine AW.block ?_
      refine AW.seq ?_
      have e4 : i < d.length := by simpa using h2
      have hbd := hd.bd
      obtain ⟨b, o, hA, e0, eb, B, k, e1, e2⟩ := (hd.upD (M' := Ml)).at i e4
      refine AW.region ?_
      refine st (V.ib i rfl e4 hA) ?_
      first | refine st V.ldA ?_ | refine sq V.loA ?_
      refine se (S.alloc ?_); intro b4
      refine se (S.storeA rfl ?_)
      refine sn ?_
      refine AW.seq ?_
      refine AW.region ?_
      refine st V.faz ?_
      first | refine st V.ld ?_ | refine sq V.lo ?_
      refine st V.len ?_
      refine st V.gtr ?_
      refine st V.move ?_
      refine onoff true rfl rfl (fun h3 => ?_) (fun h3 => ?_)
      ·
        have k3 := bp h3
        refine st V.faz ?_
        refine on rfl h3 ?_
        first | refine st V.ld ?_ | refine sq V.lo ?_
        refine on rfl h3 ?_
        refine se (S.call (fst := []) (cap := []) ?_)
        refine (conC_c 113 [] _ _ _ B k _ e2 (fun M' _ x B' k' _ _ _ => many1_c M' _ x.name B' _ k')).mono ?_
        rintro v M1 i1 iM ⟨rfl, rfl⟩
        refine st (V.pF h3) ?_
        refine sn ?_
        refine cond (fun h4 => ?_) (fun h4 => ?_)
        ·
          have k4 := bp h4
          refine AW.seq ?_
          refine AW.region ?_
          refine st V.assign ?_
          refine sn ?_
          refine AW.ret ?_
          repeat with_reducible first | refine thn_ret ?_ | refine inb_ret ?_
          refine fin (Res.i1 rfl) ?_
          exact ⟨_, (by repeat first | exact List.Sublist.refl _ | apply List.Sublist.cons), by rw [manyF, any_at i e4 (by rw [many0, h4, Bool.or_true]), Bool.or_true], rfl⟩
        ·
          have k4 := bp h4
          refine AW.skip ?_
          refine AW.region ?_
          refine st (V.add64 (by omega)) ?_
          refine st V.move ?_
          refine sn ?_
          refine thn_normal ?_
          refine rnd (n - 1) _ (by omega) (List.sublist_cons_self _ _) ⟨i + 1, by simp, rfl, by omega, fun j h hj => ?_⟩
          rcases Nat.lt_or_ge j i with hji | hji
          · exact hall j h hji
          · obtain rfl : j = i := by omega
            rw [many0, h3, h4]; rfl
      ·
        have k3 := bp h3
        refine off rfl h3 ?_
        refine off rfl h3 ?_
        refine st (V.pT h3) ?_
        refine sn ?_
        refine cond (fun _ => ?_) (fun h => by cases h)
        refine AW.seq ?_
        refine AW.region ?_
        refine st V.assign ?_
        refine sn ?_
        refine AW.ret ?_
        repeat with_reducible first | refine thn_ret ?_ | refine inb_ret ?_
        refine fin (Res.i1 rfl) ?_
        exact ⟨_, (by repeat first | exact List.Sublist.refl _ | apply List.Sublist.cons), by rw [manyF, any_at i e4 (by rw [many0, h3]; rfl), Bool.or_true], rfl⟩
    ·
      have k2 := bp h2
      refine AW.exit ?_
      repeat with_reducible refine thn_exit ?_
      refine inb_exit ?_
      refine AW.seq ?_
      refine AW.region ?_
      refine st V.assign ?_
      refine sn ?_
      refine AW.ret ?_
      repeat with_reducible first | refine thn_ret ?_ | refine inb_ret ?_
      refine fin (Res.i1 rfl) ?_
      exact ⟨_, (by repeat first | exact List.Sublist.refl _ | apply List.Sublist.cons), by rw [manyF, h1, any_none (fun j h => hall j h (by omega))]; rfl, rfl⟩
set_option maxHeartbeats 1600000 in
set_option synthInstance.maxHeartbeats 400000 in
set_option synthInstance.maxSize 100000 in
set_option maxRecDepth 100000 in
theorem name_c (M : Mem) (H : Heap) (s : ByteArray) (hs : s.size ≤ 140737488355328) :
    AC Tryz.prog 114 [.string s] M H fun v _ H' => v = .bool (nameF s) ∧ H' = H := by
  refine AC.of (n := 57) Tryz.func114 rfl rfl ?_
  dsimp only [List.replicate, List.cons_append, List.nil_append]
  refine AW.seq ?_
  refine AW.region ?_
  refine st V.assign ?_
  refine sn ?_
  refine AW.seq ?_
  refine AW.seq ?_
  refine AW.region ?_
  refine st V.move ?_
  refine st V.eqs ?_
  refine st V.move ?_
  refine onoff true rfl rfl (fun h1 => ?_) (fun h1 => ?_)
  ·
    have k1 := bp h1
    have z0 := size_pos k1
    refine st V.move ?_
    refine on rfl h1 ?_
    refine st V.lenS ?_
    refine on rfl h1 ?_
    refine st V.gtr ?_
    refine st (V.pF h1) ?_
    refine st V.move ?_
    refine onoff true rfl rfl (fun h2 => ?_) (fun h2 => ?_)
    ·
      have k2 := bp h2
      refine st V.move ?_
      refine on rfl h2 ?_
      refine st (V.idx (by omega) (by omega)) ?_
      refine on rfl h2 ?_
      refine st V.lss ?_
      refine st (V.pF h2) ?_
      refine st V.move ?_
      refine onoff true rfl rfl (fun h3 => ?_) (fun h3 => ?_)
      ·
        have k3 := bp h3
        refine st V.move ?_
        refine on rfl h3 ?_
        refine st (V.idx (by omega) (by omega)) ?_
        refine on rfl h3 ?_
        refine st V.gtr ?_
        refine st (V.pF h3) ?_
        refine sn ?_
        refine cond (fun h4 => ?_) (fun h4 => ?_)
        ·
          have k4 := bp h4
          refine AW.seq ?_
          refine AW.region ?_
          refine st V.assign ?_
          refine sn ?_
          refine AW.ret ?_
          repeat with_reducible first | refine thn_ret ?_ | refine inb_ret ?_
          refine fin (Res.i1 rfl) ?_
          exact ⟨_, (by repeat first | exact List.Sublist.refl _ | apply List.Sublist.cons), by first | contradiction | exact nameF_e (by assumption) | exact nameF_f (by omega) | exact nameF_i i (by omega) (by unfold letB; omega) | exact nameF_t (by omega) (by omega) (by omega) (by omega) (fun j h => hall j (by omega)), rfl⟩
        ·
          have k4 := bp h4
          refine AW.skip ?_
          refine AW.seq ?_
          refine AW.seq ?_
          refine AW.region ?_
          refine st V.move ?_
          refine st V.lenS ?_
          refine st V.move ?_
          refine sn ?_
          refine AW.block ?_
          refine AW.loopL [24] (2 :: 3 :: 4 :: 25 :: 26 :: 27 :: 28 :: 29 :: 30 :: 31 :: 32 :: 33 :: 34 :: 35 :: 36 :: 37 :: 38 :: 39 :: 40 :: 41 :: 42 :: 43 :: 44 :: 45 :: 46 :: 47 :: 48 :: 49 :: 50 :: 51 :: 52 :: 53 :: 54 :: 55 :: 56 :: 57 :: []) (fun n vs M' H' => ∃ i : Nat, vs = [.int .i64 (i : Int)] ∧ H' = H ∧ i + n = s.size ∧ (∀ j : Nat, j < i → letB (byt s j))) (s.size) (⟨0, rfl, rfl, by omega, fun j h => by omega⟩) ?_
          intro n Ml Hl iL u24 hI u2 u3 u4 u25 u26 u27 u28 u29 u30 u31 u32 u33 u34 u35 u36 u37 u38 u39 u40 u41 u42 u43 u44 u45 u46 u47 u48 u49 u50 u51 u52 u53 u54 u55 u56 u57
          obtain ⟨i, hv, rfl, hi, hall⟩ := hI
          cases hv
          refine sa ?_
          refine AW.seq ?_
          refine AW.region ?_
          refine st V.lss ?_
          refine sn ?_
          refine AW.seq ?_
          refine cond (fun h5 => ?_) (fun h5 => ?_)
          ·
            have k5 := bp h5
            refine AW.skip ?_
            refine AW.seq ?_
            refine AW.block ?_
            refine AW.seq ?_
            refine AW.region ?_
            refine st V.move ?_
            refine st V.assign ?_
            refine sn ?_
            refine AW.seq ?_
            refine AW.region ?_
            refine st V.move ?_
            refine st V.move ?_
            refine st (V.idx (by omega) (by omega)) ?_
            refine st V.assign ?_
            refine sn ?_
            refine AW.seq ?_
            refine AW.region ?_
            refine st V.move ?_
            refine st V.geq ?_
            refine st V.move ?_
            refine onoff false rfl rfl (fun h6 => ?_) (fun h6 => ?_)
            ·
              have k6 := bp h6
              refine st V.move ?_
              refine on rfl h6 ?_
              refine st V.leq ?_
              refine st (V.pT h6) ?_
              refine st V.move ?_
              refine onoff true rfl rfl (fun h7 => ?_) (fun h7 => ?_)
              ·
                have k7 := bp h7
                refine st V.move ?_
                refine on rfl h7 ?_
                refine st V.geq ?_
                refine on rfl h7 ?_
                refine st V.move ?_
                refine onoff false rfl rfl (fun h8 => ?_) (fun h8 => ?_)
                ·
                  have k8 := bp h8
                  refine st V.move ?_
                  refine on rfl h8 ?_
                  refine st V.leq ?_
                  refine on rfl h7 ?_
                  refine st (V.pT h8) ?_
                  refine st (V.pF h7) ?_
                  refine st V.move ?_
                  refine onoff true rfl rfl (fun h9 => ?_) (fun h9 => ?_)
                  ·
                    have k9 := bp h9
                    refine st V.move ?_
                    refine on rfl h9 ?_
                    refine st V.geq ?_
                    refine on rfl h9 ?_
                    refine st V.move ?_
                    refine onoff false rfl rfl (fun h10 => ?_) (fun h10 => ?_)
                    ·
                      have k10 := bp h10
                      refine st V.move ?_
                      refine on rfl h10 ?_
                      refine st V.leq ?_
                      refine on rfl h9 ?_
                      refine st (V.pT h10) ?_
                      refine st (V.pF h9) ?_
                      refine st V.move ?_
                      refine onoff true rfl rfl (fun h11 => ?_) (fun h11 => ?_)
                      ·
                        have k11 := bp h11
                        refine st V.move ?_
                        refine on rfl h11 ?_
                        refine st V.eql ?_
                        refine st (V.pF h11) ?_
                        refine st V.not ?_
                        refine sn ?_
                        refine cond (fun h12 => ?_) (fun h12 => ?_)
                        ·
                          have k12 := bp h12
                          refine AW.seq ?_
                          refine AW.region ?_
                          refine st V.assign ?_
                          refine sn ?_
                          refine AW.ret ?_
                          repeat with_reducible first | refine thn_ret ?_ | refine inb_ret ?_
                          refine fin (Res.i1 rfl) ?_
                          exact ⟨_, (by repeat first | exact List.Sublist.refl _ | apply List.Sublist.cons), by first | contradiction | exact nameF_e (by assumption) | exact nameF_f (by omega) | exact nameF_i i (by omega) (by unfold letB; omega) | exact nameF_t (by omega) (by omega) (by omega) (by omega) (fun j h => hall j (by omega)), rfl⟩
                        ·
                          have k12 := bp h12
                          refine AW.skip ?_
                          refine AW.region ?_
                          refine st (V.add64 (by omega)) ?_
                          refine st V.move ?_
                          refine sn ?_
                          refine thn_normal ?_
                          refine rnd (n - 1) _ (by omega) (List.Sublist.refl _) ⟨i + 1, by simp, rfl, by omega, fun j hj => ?_⟩
                          rcases Nat.lt_or_ge j i with hji | hji
                          · exact hall j hji
                          · obtain rfl : j = i := by omega
                            unfold letB; omega
                      ·
                        have k11 := bp h11
                        refine off rfl h11 ?_
                        refine st (V.pT h11) ?_
                        refine st V.not ?_
                        refine sn ?_
                        refine cond (fun h13 => ?_) (fun h13 => ?_)
                        ·
                          have k13 := bp h13
                          refine AW.seq ?_
                          refine AW.region ?_
                          refine st V.assign ?_
                          refine sn ?_
                          refine AW.ret ?_
                          repeat with_reducible first | refine thn_ret ?_ | refine inb_ret ?_
                          refine fin (Res.i1 rfl) ?_
                          exact ⟨_, (by repeat first | exact List.Sublist.refl _ | apply List.Sublist.cons), by first | contradiction | exact nameF_e (by assumption) | exact nameF_f (by omega) | exact nameF_i i (by omega) (by unfold letB; omega) | exact nameF_t (by omega) (by omega) (by omega) (by omega) (fun j h => hall j (by omega)), rfl⟩
                        ·
                          have k13 := bp h13
                          refine AW.skip ?_
                          refine AW.region ?_
                          refine st (V.add64 (by omega)) ?_
                          refine st V.move ?_
                          refine sn ?_
                          refine thn_normal ?_
                          refine rnd (n - 1) _ (by omega) (List.Sublist.refl _) ⟨i + 1, by simp, rfl, by omega, fun j hj => ?_⟩
                          rcases Nat.lt_or_ge j i with hji | hji
                          · exact hall j hji
                          · obtain rfl : j = i := by omega
                            unfold letB; omega
                    ·
                      have k10 := bp h10
                      refine off rfl h10 ?_
                      refine on rfl h9 ?_
                      refine st (V.pF h10) ?_
                      refine st (V.pF h9) ?_
                      refine st V.move ?_
                      refine on rfl rfl ?_
                      refine st V.move ?_
                      refine on rfl rfl ?_
                      refine st V.eql ?_
                      refine st (V.pF rfl) ?_
                      refine st V.not ?_
                      refine sn ?_
                      refine cond (fun h14 => ?_) (fun h14 => ?_)
                      ·
                        have k14 := bp h14
                        refine AW.seq ?_
                        refine AW.region ?_
                        refine st V.assign ?_
                        refine sn ?_
                        refine AW.ret ?_
                        repeat with_reducible first | refine thn_ret ?_ | refine inb_ret ?_
                        refine fin (Res.i1 rfl) ?_
                        exact ⟨_, (by repeat first | exact List.Sublist.refl _ | apply List.Sublist.cons), by first | contradiction | exact nameF_e (by assumption) | exact nameF_f (by omega) | exact nameF_i i (by omega) (by unfold letB; omega) | exact nameF_t (by omega) (by omega) (by omega) (by omega) (fun j h => hall j (by omega)), rfl⟩
                      ·
                        have k14 := bp h14
                        refine AW.skip ?_
                        refine AW.region ?_
                        refine st (V.add64 (by omega)) ?_
                        refine st V.move ?_
                        refine sn ?_
                        refine thn_normal ?_
                        refine rnd (n - 1) _ (by omega) (List.Sublist.refl _) ⟨i + 1, by simp, rfl, by omega, fun j hj => ?_⟩
                        rcases Nat.lt_or_ge j i with hji | hji
                        · exact hall j hji
                        · obtain rfl : j = i := by omega
                          unfold letB; omega
                  ·
                    have k9 := bp h9
                    refine off rfl h9 ?_
                    refine off rfl h9 ?_
                    refine offU rfl ?_
                    refine offU rfl ?_
                    refine off rfl h9 ?_
                    refine st (V.pT h9) ?_
                    refine st V.move ?_
                    refine off rfl rfl ?_
                    refine off rfl rfl ?_
                    refine st (V.pT rfl) ?_
                    refine st V.not ?_
                    refine sn ?_
                    refine cond (fun h15 => ?_) (fun h15 => ?_)
                    ·
                      have k15 := bp h15
                      refine AW.seq ?_
                      refine AW.region ?_
                      refine st V.assign ?_
                      refine sn ?_
                      refine AW.ret ?_
                      repeat with_reducible first | refine thn_ret ?_ | refine inb_ret ?_
                      refine fin (Res.i1 rfl) ?_
                      exact ⟨_, (by repeat first | exact List.Sublist.refl _ | apply List.Sublist.cons), by first | contradiction | exact nameF_e (by assumption) | exact nameF_f (by omega) | exact nameF_i i (by omega) (by unfold letB; omega) | exact nameF_t (by omega) (by omega) (by omega) (by omega) (fun j h => hall j (by omega)), rfl⟩
                    ·
                      have k15 := bp h15
                      refine AW.skip ?_
                      refine AW.region ?_
                      refine st (V.add64 (by omega)) ?_
                      refine st V.move ?_
                      refine sn ?_
                      refine thn_normal ?_
                      refine rnd (n - 1) _ (by omega) (List.Sublist.refl _) ⟨i + 1, by simp, rfl, by omega, fun j hj => ?_⟩
                      rcases Nat.lt_or_ge j i with hji | hji
                      · exact hall j hji
                      · obtain rfl : j = i := by omega
                        unfold letB; omega
                ·
                  have k8 := bp h8
                  refine off rfl h8 ?_
                  refine on rfl h7 ?_
                  refine st (V.pF h8) ?_
                  refine st (V.pF h7) ?_
                  refine st V.move ?_
                  refine on rfl rfl ?_
                  refine st V.move ?_
                  refine on rfl rfl ?_
                  refine st V.geq ?_
                  refine on rfl rfl ?_
                  refine st V.move ?_
                  refine onoff false rfl rfl (fun h16 => ?_) (fun h16 => ?_)
                  ·
                    have k16 := bp h16
                    refine st V.move ?_
                    refine on rfl h16 ?_
                    refine st V.leq ?_
                    refine on rfl rfl ?_
                    refine st (V.pT h16) ?_
                    refine st (V.pF rfl) ?_
                    refine st V.move ?_
                    refine onoff true rfl rfl (fun h17 => ?_) (fun h17 => ?_)
                    ·
                      have k17 := bp h17
                      refine st V.move ?_
                      refine on rfl h17 ?_
                      refine st V.eql ?_
                      refine st (V.pF h17) ?_
                      refine st V.not ?_
                      refine sn ?_
                      refine cond (fun h18 => ?_) (fun h18 => ?_)
                      ·
                        have k18 := bp h18
                        refine AW.seq ?_
                        refine AW.region ?_
                        refine st V.assign ?_
                        refine sn ?_
                        refine AW.ret ?_
                        repeat with_reducible first | refine thn_ret ?_ | refine inb_ret ?_
                        refine fin (Res.i1 rfl) ?_
                        exact ⟨_, (by repeat first | exact List.Sublist.refl _ | apply List.Sublist.cons), by first | contradiction | exact nameF_e (by assumption) | exact nameF_f (by omega) | exact nameF_i i (by omega) (by unfold letB; omega) | exact nameF_t (by omega) (by omega) (by omega) (by omega) (fun j h => hall j (by omega)), rfl⟩
                      ·
                        have k18 := bp h18
                        refine AW.skip ?_
                        refine AW.region ?_
                        refine st (V.add64 (by omega)) ?_
                        refine st V.move ?_
                        refine sn ?_
                        refine thn_normal ?_
                        refine rnd (n - 1) _ (by omega) (List.Sublist.refl _) ⟨i + 1, by simp, rfl, by omega, fun j hj => ?_⟩
                        rcases Nat.lt_or_ge j i with hji | hji
                        · exact hall j hji
                        · obtain rfl : j = i := by omega
                          unfold letB; omega
                    ·
                      have k17 := bp h17
                      refine off rfl h17 ?_
                      refine st (V.pT h17) ?_
                      refine st V.not ?_
                      refine sn ?_
                      refine cond (fun h19 => ?_) (fun h19 => ?_)
                      ·
                        have k19 := bp h19
                        refine AW.seq ?_
                        refine AW.region ?_
                        refine st V.assign ?_
                        refine sn ?_
                        refine AW.ret ?_
                        repeat with_reducible first | refine thn_ret ?_ | refine inb_ret ?_
                        refine fin (Res.i1 rfl) ?_
                        exact ⟨_, (by repeat first | exact List.Sublist.refl _ | apply List.Sublist.cons), by first | contradiction | exact nameF_e (by assumption) | exact nameF_f (by omega) | exact nameF_i i (by omega) (by unfold letB; omega) | exact nameF_t (by omega) (by omega) (by omega) (by omega) (fun j h => hall j (by omega)), rfl⟩
                      ·
                        have k19 := bp h19
                        refine AW.skip ?_
                        refine AW.region ?_
                        refine st (V.add64 (by omega)) ?_
                        refine st V.move ?_
                        refine sn ?_
                        refine thn_normal ?_
                        refine rnd (n - 1) _ (by omega) (List.Sublist.refl _) ⟨i + 1, by simp, rfl, by omega, fun j hj => ?_⟩
                        rcases Nat.lt_or_ge j i with hji | hji
                        · exact hall j hji
                        · obtain rfl : j = i := by omega
                          unfold letB; omega
                  ·
                    have k16 := bp h16
                    refine off rfl h16 ?_
                    refine on rfl rfl ?_
                    refine st (V.pF h16) ?_
                    refine st (V.pF rfl) ?_
                    refine st V.move ?_
                    refine on rfl rfl ?_
                    refine st V.move ?_
                    refine on rfl rfl ?_
                    refine st V.eql ?_
                    refine st (V.pF rfl) ?_
                    refine st V.not ?_
                    refine sn ?_
                    refine cond (fun h20 => ?_) (fun h20 => ?_)
                    ·
                      have k20 := bp h20
                      refine AW.seq ?_
                      refine AW.region ?_
                      refine st V.assign ?_
                      refine sn ?_
                      refine AW.ret ?_
                      repeat with_reducible first | refine thn_ret ?_ | refine inb_ret ?_
                      refine fin (Res.i1 rfl) ?_
                      exact ⟨_, (by repeat first | exact List.Sublist.refl _ | apply List.Sublist.cons), by first | contradiction | exact nameF_e (by assumption) | exact nameF_f (by omega) | exact nameF_i i (by omega) (by unfold letB; omega) | exact nameF_t (by omega) (by omega) (by omega) (by omega) (fun j h => hall j (by omega)), rfl⟩
                    ·
                      have k20 := bp h20
                      refine AW.skip ?_
                      refine AW.region ?_
                      refine st (V.add64 (by omega)) ?_
                      refine st V.move ?_
                      refine sn ?_
                      refine thn_normal ?_
                      refine rnd (n - 1) _ (by omega) (List.Sublist.refl _) ⟨i + 1, by simp, rfl, by omega, fun j hj => ?_⟩
                      rcases Nat.lt_or_ge j i with hji | hji
                      · exact hall j hji
                      · obtain rfl : j = i := by omega
                        unfold letB; omega
              ·
                have k7 := bp h7
                refine off rfl h7 ?_
                refine off rfl h7 ?_
                refine offU rfl ?_
                refine offU rfl ?_
                refine off rfl h7 ?_
                refine st (V.pT h7) ?_
                refine st V.move ?_
                refine off rfl rfl ?_
                refine off rfl rfl ?_
                refine off rfl rfl ?_
                refine offU rfl ?_
                refine offU rfl ?_
                refine off rfl rfl ?_
                refine st (V.pT rfl) ?_
                refine st V.move ?_
                refine off rfl rfl ?_
                refine off rfl rfl ?_
                refine st (V.pT rfl) ?_
                refine st V.not ?_
                refine sn ?_
                refine cond (fun h21 => ?_) (fun h21 => ?_)
                ·
                  have k21 := bp h21
                  refine AW.seq ?_
                  refine AW.region ?_
                  refine st V.assign ?_
                  refine sn ?_
                  refine AW.ret ?_
                  repeat with_reducible first | refine thn_ret ?_ | refine inb_ret ?_
                  refine fin (Res.i1 rfl) ?_
                  exact ⟨_, (by repeat first | exact List.Sublist.refl _ | apply List.Sublist.cons), by first | contradiction | exact nameF_e (by assumption) | exact nameF_f (by omega) | exact nameF_i i (by omega) (by unfold letB; omega) | exact nameF_t (by omega) (by omega) (by omega) (by omega) (fun j h => hall j (by omega)), rfl⟩
                ·
                  have k21 := bp h21
                  refine AW.skip ?_
                  refine AW.region ?_
                  refine st (V.add64 (by omega)) ?_
                  refine st V.move ?_
                  refine sn ?_
                  refine thn_normal ?_
                  refine rnd (n - 1) _ (by omega) (List.Sublist.refl _) ⟨i + 1, by simp, rfl, by omega, fun j hj => ?_⟩
                  rcases Nat.lt_or_ge j i with hji | hji
                  · exact hall j hji
                  · obtain rfl : j = i := by omega
                    unfold letB; omega
            ·
              have k6 := bp h6
              refine off rfl h6 ?_
              refine st (V.pF h6) ?_
              refine st V.move ?_
              refine on rfl rfl ?_
              refine st V.move ?_
              refine on rfl rfl ?_
              refine st V.geq ?_
              refine on rfl rfl ?_
              refine st V.move ?_
              refine onoff false rfl rfl (fun h22 => ?_) (fun h22 => ?_)
              ·
                have k22 := bp h22
                refine st V.move ?_
                refine on rfl h22 ?_
                refine st V.leq ?_
                refine on rfl rfl ?_
                refine st (V.pT h22) ?_
                refine st (V.pF rfl) ?_
                refine st V.move ?_
                refine onoff true rfl rfl (fun h23 => ?_) (fun h23 => ?_)
                ·
                  have k23 := bp h23
                  refine st V.move ?_
                  refine on rfl h23 ?_
                  refine st V.geq ?_
                  refine on rfl h23 ?_
                  refine st V.move ?_
                  refine onoff false rfl rfl (fun h24 => ?_) (fun h24 => ?_)
                  ·
                    have k24 := bp h24
                    refine st V.move ?_
                    refine on rfl h24 ?_
                    refine st V.leq ?_
                    refine on rfl h23 ?_
                    refine st (V.pT h24) ?_
                    refine st (V.pF h23) ?_
                    refine st V.move ?_
                    refine onoff true rfl rfl (fun h25 => ?_) (fun h25 => ?_)
                    ·
                      have k25 := bp h25
                      refine st V.move ?_
                      refine on rfl h25 ?_
                      refine st V.eql ?_
                      refine st (V.pF h25) ?_
                      refine st V.not ?_
                      refine sn ?_
                      refine cond (fun h26 => ?_) (fun h26 => ?_)
                      ·
                        have k26 := bp h26
                        refine AW.seq ?_
                        refine AW.region ?_
                        refine st V.assign ?_
                        refine sn ?_
                        refine AW.ret ?_
                        repeat with_reducible first | refine thn_ret ?_ | refine inb_ret ?_
                        refine fin (Res.i1 rfl) ?_
                        exact ⟨_, (by repeat first | exact List.Sublist.refl _ | apply List.Sublist.cons), by first | contradiction | exact nameF_e (by assumption) | exact nameF_f (by omega) | exact nameF_i i (by omega) (by unfold letB; omega) | exact nameF_t (by omega) (by omega) (by omega) (by omega) (fun j h => hall j (by omega)), rfl⟩
                      ·
                        have k26 := bp h26
                        refine AW.skip ?_
                        refine AW.region ?_
                        refine st (V.add64 (by omega)) ?_
                        refine st V.move ?_
                        refine sn ?_
                        refine thn_normal ?_
                        refine rnd (n - 1) _ (by omega) (List.Sublist.refl _) ⟨i + 1, by simp, rfl, by omega, fun j hj => ?_⟩
                        rcases Nat.lt_or_ge j i with hji | hji
                        · exact hall j hji
                        · obtain rfl : j = i := by omega
                          unfold letB; omega
                    ·
                      have k25 := bp h25
                      refine off rfl h25 ?_
                      refine st (V.pT h25) ?_
                      refine st V.not ?_
                      refine sn ?_
                      refine cond (fun h27 => ?_) (fun h27 => ?_)
                      ·
                        have k27 := bp h27
                        refine AW.seq ?_
                        refine AW.region ?_
                        refine st V.assign ?_
                        refine sn ?_
                        refine AW.ret ?_
                        repeat with_reducible first | refine thn_ret ?_ | refine inb_ret ?_
                        refine fin (Res.i1 rfl) ?_
                        exact ⟨_, (by repeat first | exact List.Sublist.refl _ | apply List.Sublist.cons), by first | contradiction | exact nameF_e (by assumption) | exact nameF_f (by omega) | exact nameF_i i (by omega) (by unfold letB; omega) | exact nameF_t (by omega) (by omega) (by omega) (by omega) (fun j h => hall j (by omega)), rfl⟩
                      ·
                        have k27 := bp h27
                        refine AW.skip ?_
                        refine AW.region ?_
                        refine st (V.add64 (by omega)) ?_
                        refine st V.move ?_
                        refine sn ?_
                        refine thn_normal ?_
                        refine rnd (n - 1) _ (by omega) (List.Sublist.refl _) ⟨i + 1, by simp, rfl, by omega, fun j hj => ?_⟩
                        rcases Nat.lt_or_ge j i with hji | hji
                        · exact hall j hji
                        · obtain rfl : j = i := by omega
                          unfold letB; omega
                  ·
                    have k24 := bp h24
                    refine off rfl h24 ?_
                    refine on rfl h23 ?_
                    refine st (V.pF h24) ?_
                    refine st (V.pF h23) ?_
                    refine st V.move ?_
                    refine on rfl rfl ?_
                    refine st V.move ?_
                    refine on rfl rfl ?_
                    refine st V.eql ?_
                    refine st (V.pF rfl) ?_
                    refine st V.not ?_
                    refine sn ?_
                    refine cond (fun h28 => ?_) (fun h28 => ?_)
                    ·
                      have k28 := bp h28
                      refine AW.seq ?_
                      refine AW.region ?_
                      refine st V.assign ?_
                      refine sn ?_
                      refine AW.ret ?_
                      repeat with_reducible first | refine thn_ret ?_ | refine inb_ret ?_
                      refine fin (Res.i1 rfl) ?_
                      exact ⟨_, (by repeat first | exact List.Sublist.refl _ | apply List.Sublist.cons), by first | contradiction | exact nameF_e (by assumption) | exact nameF_f (by omega) | exact nameF_i i (by omega) (by unfold letB; omega) | exact nameF_t (by omega) (by omega) (by omega) (by omega) (fun j h => hall j (by omega)), rfl⟩
                    ·
                      have k28 := bp h28
                      refine AW.skip ?_
                      refine AW.region ?_
                      refine st (V.add64 (by omega)) ?_
                      refine st V.move ?_
                      refine sn ?_
                      refine thn_normal ?_
                      refine rnd (n - 1) _ (by omega) (List.Sublist.refl _) ⟨i + 1, by simp, rfl, by omega, fun j hj => ?_⟩
                      rcases Nat.lt_or_ge j i with hji | hji
                      · exact hall j hji
                      · obtain rfl : j = i := by omega
                        unfold letB; omega
                ·
                  have k23 := bp h23
                  refine off rfl h23 ?_
                  refine off rfl h23 ?_
                  refine offU rfl ?_
                  refine offU rfl ?_
                  refine off rfl h23 ?_
                  refine st (V.pT h23) ?_
                  refine st V.move ?_
                  refine off rfl rfl ?_
                  refine off rfl rfl ?_
                  refine st (V.pT rfl) ?_
                  refine st V.not ?_
                  refine sn ?_
                  refine cond (fun h29 => ?_) (fun h29 => ?_)
                  ·
                    have k29 := bp h29
                    refine AW.seq ?_
                    refine AW.region ?_
                    refine st V.assign ?_
                    refine sn ?_
                    refine AW.ret ?_
                    repeat with_reducible first | refine thn_ret ?_ | refine inb_ret ?_
                    refine fin (Res.i1 rfl) ?_
                    exact ⟨_, (by repeat first | exact List.Sublist.refl _ | apply List.Sublist.cons), by first | contradiction | exact nameF_e (by assumption) | exact nameF_f (by omega) | exact nameF_i i (by omega) (by unfold letB; omega) | exact nameF_t (by omega) (by omega) (by omega) (by omega) (fun j h => hall j (by omega)), rfl⟩
                  ·
                    have k29 := bp h29
                    refine AW.skip ?_
                    refine AW.region ?_
                    refine st (V.add64 (by omega)) ?_
                    refine st V.move ?_
                    refine sn ?_
                    refine thn_normal ?_
                    refine rnd (n - 1) _ (by omega) (List.Sublist.refl _) ⟨i + 1, by simp, rfl, by omega, fun j hj => ?_⟩
                    rcases Nat.lt_or_ge j i with hji | hji
                    · exact hall j hji
                    · obtain rfl : j = i := by omega
                      unfold letB; omega
              ·
                have k22 := bp h22
                refine off rfl h22 ?_
                refine on rfl rfl ?_
                refine st (V.pF h22) ?_
                refine st (V.pF rfl) ?_
                refine st V.move ?_
                refine on rfl rfl ?_
                refine st V.move ?_
                refine on rfl rfl ?_
                refine st V.geq ?_
                refine on rfl rfl ?_
                refine st V.move ?_
                refine onoff false rfl rfl (fun h30 => ?_) (fun h30 => ?_)
                ·
                  have k30 := bp h30
                  refine st V.move ?_
                  refine on rfl h30 ?_
                  refine st V.leq ?_
                  refine on rfl rfl ?_
                  refine st (V.pT h30) ?_
                  refine st (V.pF rfl) ?_
                  refine st V.move ?_
                  refine onoff true rfl rfl (fun h31 => ?_) (fun h31 => ?_)
                  ·
                    have k31 := bp h31
                    refine st V.move ?_
                    refine on rfl h31 ?_
                    refine st V.eql ?_
                    refine st (V.pF h31) ?_
                    refine st V.not ?_
                    refine sn ?_
                    refine cond (fun h32 => ?_) (fun h32 => ?_)
                    ·
                      have k32 := bp h32
                      refine AW.seq ?_
                      refine AW.region ?_
                      refine st V.assign ?_
                      refine sn ?_
                      refine AW.ret ?_
                      repeat with_reducible first | refine thn_ret ?_ | refine inb_ret ?_
                      refine fin (Res.i1 rfl) ?_
                      exact ⟨_, (by repeat first | exact List.Sublist.refl _ | apply List.Sublist.cons), by first | contradiction | exact nameF_e (by assumption) | exact nameF_f (by omega) | exact nameF_i i (by omega) (by unfold letB; omega) | exact nameF_t (by omega) (by omega) (by omega) (by omega) (fun j h => hall j (by omega)), rfl⟩
                    ·
                      have k32 := bp h32
                      refine AW.skip ?_
                      refine AW.region ?_
                      refine st (V.add64 (by omega)) ?_
                      refine st V.move ?_
                      refine sn ?_
                      refine thn_normal ?_
                      refine rnd (n - 1) _ (by omega) (List.Sublist.refl _) ⟨i + 1, by simp, rfl, by omega, fun j hj => ?_⟩
                      rcases Nat.lt_or_ge j i with hji | hji
                      · exact hall j hji
                      · obtain rfl : j = i := by omega
                        unfold letB; omega
                  ·
                    have k31 := bp h31
                    refine off rfl h31 ?_
                    refine st (V.pT h31) ?_
                    refine st V.not ?_
                    refine sn ?_
                    refine cond (fun h33 => ?_) (fun h33 => ?_)
                    ·
                      have k33 := bp h33
                      refine AW.seq ?_
                      refine AW.region ?_
                      refine st V.assign ?_
                      refine sn ?_
                      refine AW.ret ?_
                      repeat with_reducible first | refine thn_ret ?_ | refine inb_ret ?_
                      refine fin (Res.i1 rfl) ?_
                      exact ⟨_, (by repeat first | exact List.Sublist.refl _ | apply List.Sublist.cons), by first | contradiction | exact nameF_e (by assumption) | exact nameF_f (by omega) | exact nameF_i i (by omega) (by unfold letB; omega) | exact nameF_t (by omega) (by omega) (by omega) (by omega) (fun j h => hall j (by omega)), rfl⟩
                    ·
                      have k33 := bp h33
                      refine AW.skip ?_
                      refine AW.region ?_
                      refine st (V.add64 (by omega)) ?_
                      refine st V.move ?_
                      refine sn ?_
                      refine thn_normal ?_
                      refine rnd (n - 1) _ (by omega) (List.Sublist.refl _) ⟨i + 1, by simp, rfl, by omega, fun j hj => ?_⟩
                      rcases Nat.lt_or_ge j i with hji | hji
                      · exact hall j hji
                      · obtain rfl : j = i := by omega
                        unfold letB; omega
                ·
                  have k30 := bp h30
                  refine off rfl h30 ?_
                  refine on rfl rfl ?_
                  refine st (V.pF h30) ?_
                  refine st (V.pF rfl) ?_
                  refine st V.move ?_
                  refine on rfl rfl ?_
                  refine st V.move ?_
                  refine on rfl rfl ?_
                  refine st V.eql ?_
                  refine st (V.pF rfl) ?_
                  refine st V.not ?_
                  refine sn ?_
                  refine cond (fun h34 => ?_) (fun h34 => ?_)
                  ·
                    have k34 := bp h34
                    refine AW.seq ?_
                    refine AW.region ?_
                    refine st V.assign ?_
                    refine sn ?_
                    refine AW.ret ?_
                    repeat with_reducible first | refine thn_ret ?_ | refine inb_ret ?_
                    refine fin (Res.i1 rfl) ?_
                    exact ⟨_, (by repeat first | exact List.Sublist.refl _ | apply List.Sublist.cons), by first | contradiction | exact nameF_e (by assumption) | exact nameF_f (by omega) | exact nameF_i i (by omega) (by unfold letB; omega) | exact nameF_t (by omega) (by omega) (by omega) (by omega) (fun j h => hall j (by omega)), rfl⟩
                  ·
                    have k34 := bp h34
                    refine AW.skip ?_
                    refine AW.region ?_
                    refine st (V.add64 (by omega)) ?_
                    refine st V.move ?_
                    refine sn ?_
                    refine thn_normal ?_
                    refine rnd (n - 1) _ (by omega) (List.Sublist.refl _) ⟨i + 1, by simp, rfl, by omega, fun j hj => ?_⟩
                    rcases Nat.lt_or_ge j i with hji | hji
                    · exact hall j hji
                    · obtain rfl : j = i := by omega
                      unfold letB; omega
          ·
            have k5 := bp h5
            refine AW.exit ?_
            repeat with_reducible refine thn_exit ?_
            refine inb_exit ?_
            refine AW.seq ?_
            refine AW.region ?_
            refine st V.assign ?_
            refine sn ?_
            refine AW.ret ?_
            repeat with_reducible first | refine thn_ret ?_ | refine inb_ret ?_
            refine fin (Res.i1 rfl) ?_
            exact ⟨_, (by repeat first | exact List.Sublist.refl _ | apply List.Sublist.cons), by first | contradiction | exact nameF_e (by assumption) | exact nameF_f (by omega) | exact nameF_i i (by omega) (by unfold letB; omega) | exact nameF_t (by omega) (by omega) (by omega) (by omega) (fun j h => hall j (by omega)), rfl⟩
      ·
        have k3 := bp h3
        refine off rfl h3 ?_
        refine off rfl h3 ?_
        refine st (V.pT h3) ?_
        refine sn ?_
        refine cond (fun _ => ?_) (fun h => by cases h)
        refine AW.seq ?_
        refine AW.region ?_
        refine st V.assign ?_
        refine sn ?_
        refine AW.ret ?_
        repeat with_reducible first | refine thn_ret ?_ | refine inb_ret ?_
        refine fin (Res.i1 rfl) ?_
        exact ⟨_, (by repeat first | exact List.Sublist.refl _ | apply List.Sublist.cons), by first | contradiction | exact nameF_e (by assumption) | exact nameF_f (by omega) | exact nameF_i i (by omega) (by unfold letB; omega) | exact nameF_t (by omega) (by omega) (by omega) (by omega) (fun j h => hall j (by omega)), rfl⟩
    ·
      have k2 := bp h2
      refine off rfl h2 ?_
      refine off rfl h2 ?_
      refine st (V.pT h2) ?_
      refine st V.move ?_
      refine off rfl rfl ?_
      refine off rfl rfl ?_
      refine off rfl rfl ?_
      refine st (V.pT rfl) ?_
      refine sn ?_
      refine cond (fun _ => ?_) (fun h => by cases h)
      refine AW.seq ?_
      refine AW.region ?_
      refine st V.assign ?_
      refine sn ?_
      refine AW.ret ?_
      repeat with_reducible first | refine thn_ret ?_ | refine inb_ret ?_
      refine fin (Res.i1 rfl) ?_
      exact ⟨_, (by repeat first | exact List.Sublist.refl _ | apply List.Sublist.cons), by first | contradiction | exact nameF_e (by assumption) | exact nameF_f (by omega) | exact nameF_i i (by omega) (by unfold letB; omega) | exact nameF_t (by omega) (by omega) (by omega) (by omega) (fun j h => hall j (by omega)), rfl⟩
  ·
    have k1 := bp h1
    refine off rfl h1 ?_
    refine off rfl h1 ?_
    refine st (V.pT h1) ?_
    refine st V.move ?_
    refine off rfl rfl ?_
    refine off rfl rfl ?_
    refine off rfl rfl ?_
    refine st (V.pT rfl) ?_
    refine st V.move ?_
    refine off rfl rfl ?_
    refine off rfl rfl ?_
    refine off rfl rfl ?_
    refine st (V.pT rfl) ?_
    refine sn ?_
    refine cond (fun _ => ?_) (fun h => by cases h)
    refine AW.seq ?_
    refine AW.region ?_
    refine st V.assign ?_
    refine sn ?_
    refine AW.ret ?_
    repeat with_reducible first | refine thn_ret ?_ | refine inb_ret ?_
    refine fin (Res.i1 rfl) ?_
    exact ⟨_, (by repeat first | exact List.Sublist.refl _ | apply List.Sublist.cons), by first | contradiction | exact nameF_e (by assumption) | exact nameF_f (by omega) | exact nameF_i i (by omega) (by unfold letB; omega) | exact nameF_t (by omega) (by omega) (by omega) (by omega) (fun j h => hall j (by omega)), rfl⟩
set_option maxHeartbeats 1600000 in
set_option synthInstance.maxHeartbeats 400000 in
set_option synthInstance.maxSize 100000 in
set_option maxRecDepth 100000 in
theorem formed1_c (M : Mem) (H : Heap) (nm : ByteArray) (hs : nm.size ≤ 140737488355328) (A : Option Addr) (n c : Nat) :
    AC Tryz.prog 115 [.agg #[.string nm, .slice A n c]] M H fun v _ H' => v = .bool (!nameF nm) ∧ H' = H := by
  refine AC.of (n := 6) Tryz.func115 rfl rfl ?_
  dsimp only [List.replicate, List.cons_append, List.nil_append]
  refine AW.seq ?_
  refine AW.region ?_
  refine se (S.boxM ?_); intro b1 M1 i1 j1
  refine st V.assign ?_
  refine sn ?_
  refine AW.seq ?_
  refine AW.region ?_
  refine st V.fa0 ?_
  first | refine st V.ld ?_ | refine sq V.lo ?_
  refine se (S.call ?_)
  refine (name_c _ H nm hs).use ?_
  rintro v N G z ⟨rfl, rfl⟩
  refine st V.not ?_
  refine st V.assign ?_
  refine sn ?_
  refine AW.ret ?_
  repeat with_reducible first | refine thn_ret ?_ | refine inb_ret ?_
  refine fin (Res.i1 rfl) ?_
  exact ⟨_, (by repeat first | exact List.Sublist.refl _ | apply List.Sublist.cons), rfl, rfl⟩
set_option maxHeartbeats 1600000 in
set_option synthInstance.maxHeartbeats 400000 in
set_option synthInstance.maxSize 100000 in
set_option maxRecDepth 100000 in
theorem formed_c (M : Mem) (H : Heap) (A : Option Addr) (c : Nat) (d : List DT) (hd : RdS 2 (RdD M) A c d) :
    AC Tryz.prog 91 [.slice A d.length c] M H fun v _ H' => v = .bool (tt (FormedP d)) ∧ H' = H := by
  refine AC.of (n := 76) Tryz.func91 rfl rfl ?_
  dsimp only [List.replicate, List.cons_append, List.nil_append]
  refine AW.seq ?_
  refine AW.region ?_
  refine st V.assign ?_
  refine sn ?_
  refine AW.seq ?_
  refine AW.seq ?_
  refine AW.region ?_
  refine st V.move ?_
  refine st V.len ?_
  refine st V.eql ?_
  refine st V.move ?_
  refine onoff true rfl rfl (fun h1 => ?_) (fun h1 => ?_)
  ·
    have k1 := bp h1
    have hbd := hd.bd
    have z0 : 0 < d.length := by omega
    obtain ⟨b, o, hA, e0, eb, A', c', e1, e2⟩ := hd.at 0 z0
    refine st V.move ?_
    refine on rfl h1 ?_
    refine st (V.ib 0 rfl z0 hA) ?_
    refine on rfl h1 ?_
    refine st V.fa0 ?_
    refine on rfl h1 ?_
    first | refine st V.ld ?_ | refine sq V.lo ?_
    refine on rfl h1 ?_
    refine st V.nes ?_
    refine st (V.pF h1) ?_
    refine st V.move ?_
    refine onoff true rfl rfl (fun h2 => ?_) (fun h2 => ?_)
    ·
      have k2 := bp h2
      refine st V.move ?_
      refine on rfl h2 ?_
      refine st (V.ib 0 rfl z0 hA) ?_
      refine on rfl h2 ?_
      refine st V.fa ?_
      refine on rfl h2 ?_
      first | refine st V.ld ?_ | refine sq V.lo ?_
      refine on rfl h2 ?_
      refine st V.len ?_
      refine on rfl h2 ?_
      refine st V.neq ?_
      refine st (V.pF h2) ?_
      refine sn ?_
      refine cond (fun h3 => ?_) (fun h3 => ?_)
      ·
        have k3 := bp h3
        refine AW.seq ?_
        refine AW.region ?_
        refine st V.assign ?_
        refine sn ?_
        refine AW.ret ?_
        repeat with_reducible first | refine thn_ret ?_ | refine inb_ret ?_
        refine fin (Res.i1 rfl) ?_
        exact ⟨_, (by repeat first | exact List.Sublist.refl _ | apply List.Sublist.cons), by first | contradiction | exact tt_t ⟨z0, ‹_›, by omega, by assumption, by assumption, by omega, fun j h => hall j h (by omega)⟩ | exact tt_f fun ⟨a0, a1, a2, a3, a4, a5, a6⟩ => by first | omega | contradiction | (obtain ⟨x1, x2, x3⟩ := a6 i (by omega); first | omega | simp_all), rfl⟩
      ·
        have k3 := bp h3
        refine AW.skip ?_
        refine AW.seq ?_
        have z2 : d[0].cons.length = 2 := by omega
        obtain ⟨b0, o0, hA0, f0, fb0, B0, K0, f1, f2⟩ := e2.at 0 (by omega)
        obtain ⟨b1, o1, hA1, g0, gb1, B1, K1, g1, g2⟩ := e2.at 1 (by omega)
        have hb0 := f2.bd
        have hb1 := g2.bd
        refine AW.regionD2 mx 12 13 [0, 1, 2, 3, 4, 5, 6, 7, 8, 9, 10, 11, 12, 13, 14, 15] [0, 1, 2, 3, 4, 5, 6, 7, 8, 9, 10, 11, 13, 12, 14, 15] [[], [0], [0, 1], [0, 1, 2], [0, 1, 2, 3], [0, 1, 2, 3, 4], [], [6], [6, 7], [6, 7, 8], [6, 7, 8, 9], [6, 7, 8, 9, 10], [], [], [0, 1, 2, 3, 4, 5, 12, 13], [0, 1, 2, 3, 4, 5, 6, 7, 8, 9, 10, 11, 12, 13, 14]] (by kernel_rfl) ?_ ?_
        ·
          refine D.p rfl rfl V.move ?_
          refine D.p rfl rfl (V.ib 0 rfl z0 hA) ?_
          refine D.p rfl rfl V.fa ?_
          refine D.p rfl rfl V.ld ?_
          refine D.p rfl rfl (V.ib 0 rfl (by omega) hA0) ?_
          refine D.p rfl rfl V.ldA ?_
          refine D.p rfl rfl V.move ?_
          refine D.p rfl rfl (V.ib 0 rfl z0 hA) ?_
          refine D.p rfl rfl V.fa ?_
          refine D.p rfl rfl V.ld ?_
          refine D.p rfl rfl (V.ib 1 rfl (by omega) hA1) ?_
          refine D.p rfl rfl V.ldA ?_
          refine D.e rfl rfl (S.alloc ?_); intro b3
          refine D.e rfl rfl (S.alloc ?_); intro b4
          refine D.e rfl rfl (S.storeA rfl ?_)
          refine D.e rfl rfl (S.storeA rfl ?_)
          refine D.nl ?_
          refine AW.seq ?_
          refine AW.seq ?_
          refine AW.region ?_
          refine st V.fa0 ?_
          first | refine st V.ld ?_ | refine sq V.lo ?_
          refine st V.nes ?_
          refine st V.move ?_
          refine onoff true rfl rfl (fun h4 => ?_) (fun h4 => ?_)
          ·
            have k4 := bp h4
            refine st V.fa0 ?_
            refine on rfl h4 ?_
            first | refine st V.ld ?_ | refine sq V.lo ?_
            refine on rfl h4 ?_
            refine st V.nes ?_
            refine st (V.pF h4) ?_
            refine st V.move ?_
            refine onoff true rfl rfl (fun h5 => ?_) (fun h5 => ?_)
            ·
              have k5 := bp h5
              refine st V.faz ?_
              refine on rfl h5 ?_
              first | refine st V.ld ?_ | refine sq V.lo ?_
              refine on rfl h5 ?_
              refine st V.len ?_
              refine on rfl h5 ?_
              refine st V.faz ?_
              refine on rfl h5 ?_
              first | refine st V.ld ?_ | refine sq V.lo ?_
              refine on rfl h5 ?_
              refine st V.len ?_
              refine on rfl h5 ?_
              refine st (V.add64 (by omega)) ?_
              refine on rfl h5 ?_
              refine st V.gtr ?_
              refine st (V.pF h5) ?_
              refine sn ?_
              refine cond (fun h6 => ?_) (fun h6 => ?_)
              ·
                have k6 := bp h6
                refine AW.seq ?_
                refine AW.region ?_
                refine st V.assign ?_
                refine sn ?_
                refine AW.ret ?_
                repeat with_reducible first | refine thn_ret ?_ | refine inb_ret ?_
                refine fin (Res.i1 rfl) ?_
                exact ⟨_, (by repeat first | exact List.Sublist.refl _ | apply List.Sublist.cons), by first | contradiction | exact tt_t ⟨z0, ‹_›, by omega, by assumption, by assumption, by omega, fun j h => hall j h (by omega)⟩ | exact tt_f fun ⟨a0, a1, a2, a3, a4, a5, a6⟩ => by first | omega | contradiction | (obtain ⟨x1, x2, x3⟩ := a6 i (by omega); first | omega | simp_all), rfl⟩
              ·
                have k6 := bp h6
                refine AW.skip ?_
                refine AW.seq ?_
                refine AW.seq ?_
                refine AW.region ?_
                refine st V.move ?_
                refine st V.len ?_
                refine st V.move ?_
                refine sn ?_
                refine AW.block ?_
                refine AW.drop (H' := H) (by repeat first | exact List.Sublist.refl _ | apply List.Sublist.cons) ?_
                refine AW.loopL [57] (2 :: 6 :: 58 :: 59 :: 60 :: 61 :: 62 :: 63 :: 64 :: 65 :: 66 :: 67 :: 68 :: 69 :: 70 :: 71 :: 72 :: 73 :: 74 :: 75 :: 76 :: []) (fun n vs M' H' => ∃ i : Nat, vs = [.int .i64 (i : Int)] ∧ H' = H ∧ i + n = d.length ∧ (∀ j (h : j < d.length), j < i → OkD d[j])) (d.length) (⟨0, rfl, rfl, by omega, fun j _ h => by omega⟩) ?_
                intro n Ml Hl iL u57 hI u2 u6 u58 u59 u60 u61 u62 u63 u64 u65 u66 u67 u68 u69 u70 u71 u72 u73 u74 u75 u76
                obtain ⟨i, hv, rfl, hi, hall⟩ := hI
                cases hv
                refine sa ?_
                refine AW.seq ?_
                refine AW.region ?_
                refine st V.lss ?_
                refine sn ?_
                refine AW.seq ?_
                refine cond (fun h7 => ?_) (fun h7 => ?_)
                ·
                  have k7 := bp h7
                  refine AW.skip ?_
                  refine AW.seq ?_
                  refine AW.block ?_
                  refine AW.seq ?_
                  have z4 : i < d.length := by omega
                  obtain ⟨b8, o8, hA8, i0, ib0, A8, c8, i1, i2⟩ := (hd.upD (M' := Ml)).at i z4
                  refine AW.region ?_
                  refine st (V.ib i rfl z4 hA8) ?_
                  first | refine st V.ldA ?_ | refine sq V.loA ?_
                  refine se (S.alloc ?_); intro b6
                  refine se (S.storeA rfl ?_)
                  refine sn ?_
                  refine AW.seq ?_
                  refine AW.region ?_
                  refine st V.fa0 ?_
                  first | refine st V.ld ?_ | refine sq V.lo ?_
                  refine se (S.call ?_)
                  refine (name_c _ _ _ ib0).use ?_
                  rintro v N G z ⟨rfl, rfl⟩
                  refine st V.not ?_
                  refine st V.move ?_
                  refine onoff true rfl rfl (fun h8 => ?_) (fun h8 => ?_)
                  ·
                    have k8 := bp h8
                    refine st V.faz ?_
                    refine on rfl h8 ?_
                    first | refine st V.ld ?_ | refine sq V.lo ?_
                    refine on rfl h8 ?_
                    refine st V.len ?_
                    refine on rfl h8 ?_
                    refine st V.eql ?_
                    refine st (V.pF h8) ?_
                    refine st V.move ?_
                    refine onoff true rfl rfl (fun h9 => ?_) (fun h9 => ?_)
                    ·
                      have k9 := bp h9
                      refine st V.faz ?_
                      refine on rfl h9 ?_
                      first | refine st V.ld ?_ | refine sq V.lo ?_
                      refine on rfl h9 ?_
                      refine se (S.call (fst := []) (cap := []) ?_)
                      refine (conC_c 115 [] (fun c => !nameF c.name) _ _ A8 c8 _ i2.upC (fun M' _ x B' k' _ h1 h2 => formed1_c M' _ x.name h2 B' _ k')).use ?_
                      rintro v N G z ⟨rfl, rfl⟩
                      refine st (V.pF h9) ?_
                      refine sn ?_
                      refine cond (fun h10 => ?_) (fun h10 => ?_)
                      ·
                        have k10 := bp h10
                        refine AW.seq ?_
                        refine AW.region ?_
                        refine st V.assign ?_
                        refine sn ?_
                        refine AW.ret ?_
                        repeat with_reducible first | refine thn_ret ?_ | refine inb_ret ?_
                        refine fin (Res.i1 rfl) ?_
                        exact ⟨_, (by repeat first | exact List.Sublist.refl _ | apply List.Sublist.cons), by first | contradiction | exact tt_t ⟨z0, ‹_›, by omega, by assumption, by assumption, by omega, fun j h => hall j h (by omega)⟩ | exact tt_f fun ⟨a0, a1, a2, a3, a4, a5, a6⟩ => by first | omega | contradiction | (obtain ⟨x1, x2, x3⟩ := a6 i (by omega); first | omega | simp_all), rfl⟩
                      ·
                        have k10 := bp h10
                        refine AW.skip ?_
                        refine AW.region ?_
                        refine st (V.add64 (by omega)) ?_
                        refine st V.move ?_
                        refine sn ?_
                        refine thn_normal ?_
                        refine rnd (n - 1) _ (by omega) (by repeat first | exact List.Sublist.refl _ | apply List.Sublist.cons) ⟨i + 1, by simp, rfl, by omega, fun j h hj => ?_⟩
                        rcases Nat.lt_or_ge j i with hji | hji
                        · exact hall j h hji
                        · obtain rfl : j = i := by omega
                          refine ⟨?_, by omega, ?_⟩ <;> simp_all
                    ·
                      have k9 := bp h9
                      refine off rfl h9 ?_
                      refine off rfl h9 ?_
                      refine st (V.pT h9) ?_
                      refine sn ?_
                      refine cond (fun _ => ?_) (fun h => by cases h)
                      refine AW.seq ?_
                      refine AW.region ?_
                      refine st V.assign ?_
                      refine sn ?_
                      refine AW.ret ?_
                      repeat with_reducible first | refine thn_ret ?_ | refine inb_ret ?_
                      refine fin (Res.i1 rfl) ?_
                      exact ⟨_, (by repeat first | exact List.Sublist.refl _ | apply List.Sublist.cons), by first | contradiction | exact tt_t ⟨z0, ‹_›, by omega, by assumption, by assumption, by omega, fun j h => hall j h (by omega)⟩ | exact tt_f fun ⟨a0, a1, a2, a3, a4, a5, a6⟩ => by first | omega | contradiction | (obtain ⟨x1, x2, x3⟩ := a6 i (by omega); first | omega | simp_all), rfl⟩
                  ·
                    have k8 := bp h8
                    refine off rfl h8 ?_
                    refine off rfl h8 ?_
                    refine off rfl h8 ?_
                    refine st (V.pT h8) ?_
                    refine st V.move ?_
                    refine off rfl rfl ?_
                    refine off rfl rfl ?_
                    refine off rfl rfl ?_
                    refine st (V.pT rfl) ?_
                    refine sn ?_
                    refine cond (fun _ => ?_) (fun h => by cases h)
                    refine AW.seq ?_
                    refine AW.region ?_
                    refine st V.assign ?_
                    refine sn ?_
                    refine AW.ret ?_
                    repeat with_reducible first | refine thn_ret ?_ | refine inb_ret ?_
                    refine fin (Res.i1 rfl) ?_
                    exact ⟨_, (by repeat first | exact List.Sublist.refl _ | apply List.Sublist.cons), by first | contradiction | exact tt_t ⟨z0, ‹_›, by omega, by assumption, by assumption, by omega, fun j h => hall j h (by omega)⟩ | exact tt_f fun ⟨a0, a1, a2, a3, a4, a5, a6⟩ => by first | omega | contradiction | (obtain ⟨x1, x2, x3⟩ := a6 i (by omega); first | omega | simp_all), rfl⟩
                ·
                  have k7 := bp h7
                  refine AW.exit ?_
                  repeat with_reducible refine thn_exit ?_
                  refine inb_exit ?_
                  refine AW.seq ?_
                  refine AW.region ?_
                  refine st V.assign ?_
                  refine sn ?_
                  refine AW.ret ?_
                  repeat with_reducible first | refine thn_ret ?_ | refine inb_ret ?_
                  refine fin (Res.i1 rfl) ?_
                  exact ⟨_, (by repeat first | exact List.Sublist.refl _ | apply List.Sublist.cons), by first | contradiction | exact tt_t ⟨z0, ‹_›, by omega, by assumption, by assumption, by omega, fun j h => hall j h (by omega)⟩ | exact tt_f fun ⟨a0, a1, a2, a3, a4, a5, a6⟩ => by first | omega | contradiction | (obtain ⟨x1, x2, x3⟩ := a6 i (by omega); first | omega | simp_all), rfl⟩
            ·
              have k5 := bp h5
              refine off rfl h5 ?_
              refine off rfl h5 ?_
              refine off rfl h5 ?_
              refine off rfl h5 ?_
              refine off rfl h5 ?_
              refine off rfl h5 ?_
              refine off rfl h5 ?_
              refine st (V.pT h5) ?_
              refine sn ?_
              refine cond (fun _ => ?_) (fun h => by cases h)
              refine AW.seq ?_
              refine AW.region ?_
              refine st V.assign ?_
              refine sn ?_
              refine AW.ret ?_
              repeat with_reducible first | refine thn_ret ?_ | refine inb_ret ?_
              refine fin (Res.i1 rfl) ?_
              exact ⟨_, (by repeat first | exact List.Sublist.refl _ | apply List.Sublist.cons), by first | contradiction | exact tt_t ⟨z0, ‹_›, by omega, by assumption, by assumption, by omega, fun j h => hall j h (by omega)⟩ | exact tt_f fun ⟨a0, a1, a2, a3, a4, a5, a6⟩ => by first | omega | contradiction | (obtain ⟨x1, x2, x3⟩ := a6 i (by omega); first | omega | simp_all), rfl⟩
          ·
            have k4 := bp h4
            refine off rfl h4 ?_
            refine off rfl h4 ?_
            refine st (V.pT h4) ?_
            refine st V.move ?_
            refine off rfl rfl ?_
            refine off rfl rfl ?_
            refine off rfl rfl ?_
            refine off rfl rfl ?_
            refine off rfl rfl ?_
            refine off rfl rfl ?_
            refine off rfl rfl ?_
            refine off rfl rfl ?_
            refine st (V.pT rfl) ?_
            refine sn ?_
            refine cond (fun _ => ?_) (fun h => by cases h)
            refine AW.seq ?_
            refine AW.region ?_
            refine st V.assign ?_
            refine sn ?_
            refine AW.ret ?_
            repeat with_reducible first | refine thn_ret ?_ | refine inb_ret ?_
            refine fin (Res.i1 rfl) ?_
            exact ⟨_, (by repeat first | exact List.Sublist.refl _ | apply List.Sublist.cons), by first | contradiction | exact tt_t ⟨z0, ‹_›, by omega, by assumption, by assumption, by omega, fun j h => hall j h (by omega)⟩ | exact tt_f fun ⟨a0, a1, a2, a3, a4, a5, a6⟩ => by first | omega | contradiction | (obtain ⟨x1, x2, x3⟩ := a6 i (by omega); first | omega | simp_all), rfl⟩
        ·
          refine D.p rfl rfl V.move ?_
          refine D.p rfl rfl (V.ib 0 rfl z0 hA) ?_
          refine D.p rfl rfl V.fa ?_
          refine D.p rfl rfl V.ld ?_
          refine D.p rfl rfl (V.ib 0 rfl (by omega) hA0) ?_
          refine D.p rfl rfl V.ldA ?_
          refine D.p rfl rfl V.move ?_
          refine D.p rfl rfl (V.ib 0 rfl z0 hA) ?_
          refine D.p rfl rfl V.fa ?_
          refine D.p rfl rfl V.ld ?_
          refine D.p rfl rfl (V.ib 1 rfl (by omega) hA1) ?_
          refine D.p rfl rfl V.ldA ?_
          refine D.e rfl rfl (S.alloc ?_); intro b4
          refine D.e rfl rfl (S.alloc ?_); intro b3
          refine D.e rfl rfl (S.storeA rfl ?_)
          refine D.e rfl rfl (S.storeA rfl ?_)
          refine D.nl ?_
          refine AW.seq ?_
          refine AW.seq ?_
          refine AW.region ?_
          refine st V.fa0 ?_
          first | refine st V.ld ?_ | refine sq V.lo ?_
          refine st V.nes ?_
          refine st V.move ?_
          refine onoff true rfl rfl (fun h15 => ?_) (fun h15 => ?_)
          ·
            have k15 := bp h15
            refine st V.fa0 ?_
            refine on rfl h15 ?_
            first | refine st V.ld ?_ | refine sq V.lo ?_
            refine on rfl h15 ?_
            refine st V.nes ?_
            refine st (V.pF h15) ?_
            refine st V.move ?_
            refine onoff true rfl rfl (fun h16 => ?_) (fun h16 => ?_)
            ·
              have k16 := bp h16
              refine st V.faz ?_
              refine on rfl h16 ?_
              first | refine st V.ld ?_ | refine sq V.lo ?_
              refine on rfl h16 ?_
              refine st V.len ?_
              refine on rfl h16 ?_
              refine st V.faz ?_
              refine on rfl h16 ?_
              first | refine st V.ld ?_ | refine sq V.lo ?_
              refine on rfl h16 ?_
              refine st V.len ?_
              refine on rfl h16 ?_
              refine st (V.add64 (by omega)) ?_
              refine on rfl h16 ?_
              refine st V.gtr ?_
              refine st (V.pF h16) ?_
              refine sn ?_
              refine cond (fun h17 => ?_) (fun h17 => ?_)
              ·
                have k17 := bp h17
                refine AW.seq ?_
                refine AW.region ?_
                refine st V.assign ?_
                refine sn ?_
                refine AW.ret ?_
                repeat with_reducible first | refine thn_ret ?_ | refine inb_ret ?_
                refine fin (Res.i1 rfl) ?_
                exact ⟨_, (by repeat first | exact List.Sublist.refl _ | apply List.Sublist.cons), by first | contradiction | exact tt_t ⟨z0, ‹_›, by omega, by assumption, by assumption, by omega, fun j h => hall j h (by omega)⟩ | exact tt_f fun ⟨a0, a1, a2, a3, a4, a5, a6⟩ => by first | omega | contradiction | (obtain ⟨x1, x2, x3⟩ := a6 i (by omega); first | omega | simp_all), rfl⟩
              ·
                have k17 := bp h17
                refine AW.skip ?_
                refine AW.seq ?_
                refine AW.seq ?_
                refine AW.region ?_
                refine st V.move ?_
                refine st V.len ?_
                refine st V.move ?_
                refine sn ?_
                refine AW.block ?_
                refine AW.drop (H' := H) (by repeat first | exact List.Sublist.refl _ | apply List.Sublist.cons) ?_
                refine AW.loopL [57] (2 :: 6 :: 58 :: 59 :: 60 :: 61 :: 62 :: 63 :: 64 :: 65 :: 66 :: 67 :: 68 :: 69 :: 70 :: 71 :: 72 :: 73 :: 74 :: 75 :: 76 :: []) (fun n vs M' H' => ∃ i : Nat, vs = [.int .i64 (i : Int)] ∧ H' = H ∧ i + n = d.length ∧ (∀ j (h : j < d.length), j < i → OkD d[j])) (d.length) (⟨0, rfl, rfl, by omega, fun j _ h => by omega⟩) ?_
                intro n Ml Hl iL u57 hI u2 u6 u58 u59 u60 u61 u62 u63 u64 u65 u66 u67 u68 u69 u70 u71 u72 u73 u74 u75 u76
                obtain ⟨i, hv, rfl, hi, hall⟩ := hI
                cases hv
                refine sa ?_
                refine AW.seq ?_
                refine AW.region ?_
                refine st V.lss ?_
                refine sn ?_
                refine AW.seq ?_
                refine cond (fun h18 => ?_) (fun h18 => ?_)
                ·
                  have k18 := bp h18
                  refine AW.skip ?_
                  refine AW.seq ?_
                  refine AW.block ?_
                  refine AW.seq ?_
                  have z4 : i < d.length := by omega
                  obtain ⟨b8, o8, hA8, i0, ib0, A8, c8, i1, i2⟩ := (hd.upD (M' := Ml)).at i z4
                  refine AW.region ?_
                  refine st (V.ib i rfl z4 hA8) ?_
                  first | refine st V.ldA ?_ | refine sq V.loA ?_
                  refine se (S.alloc ?_); intro b6
                  refine se (S.storeA rfl ?_)
                  refine sn ?_
                  refine AW.seq ?_
                  refine AW.region ?_
                  refine st V.fa0 ?_
                  first | refine st V.ld ?_ | refine sq V.lo ?_
                  refine se (S.call ?_)
                  refine (name_c _ _ _ ib0).use ?_
                  rintro v N G z ⟨rfl, rfl⟩
                  refine st V.not ?_
                  refine st V.move ?_
                  refine onoff true rfl rfl (fun h19 => ?_) (fun h19 => ?_)
                  ·
                    have k19 := bp h19
                    refine st V.faz ?_
                    refine on rfl h19 ?_
                    first | refine st V.ld ?_ | refine sq V.lo ?_
                    refine on rfl h19 ?_
                    refine st V.len ?_
                    refine on rfl h19 ?_
                    refine st V.eql ?_
                    refine st (V.pF h19) ?_
                    refine st V.move ?_
                    refine onoff true rfl rfl (fun h20 => ?_) (fun h20 => ?_)
                    ·
                      have k20 := bp h20
                      refine st V.faz ?_
                      refine on rfl h20 ?_
                      first | refine st V.ld ?_ | refine sq V.lo ?_
                      refine on rfl h20 ?_
                      refine se (S.call (fst := []) (cap := []) ?_)
                      refine (conC_c 115 [] (fun c => !nameF c.name) _ _ A8 c8 _ i2.upC (fun M' _ x B' k' _ h1 h2 => formed1_c M' _ x.name h2 B' _ k')).use ?_
                      rintro v N G z ⟨rfl, rfl⟩
                      refine st (V.pF h20) ?_
                      refine sn ?_
                      refine cond (fun h21 => ?_) (fun h21 => ?_)
                      ·
                        have k21 := bp h21
                        refine AW.seq ?_
                        refine AW.region ?_
                        refine st V.assign ?_
                        refine sn ?_
                        refine AW.ret ?_
                        repeat with_reducible first | refine thn_ret ?_ | refine inb_ret ?_
                        refine fin (Res.i1 rfl) ?_
                        exact ⟨_, (by repeat first | exact List.Sublist.refl _ | apply List.Sublist.cons), by first | contradiction | exact tt_t ⟨z0, ‹_›, by omega, by assumption, by assumption, by omega, fun j h => hall j h (by omega)⟩ | exact tt_f fun ⟨a0, a1, a2, a3, a4, a5, a6⟩ => by first | omega | contradiction | (obtain ⟨x1, x2, x3⟩ := a6 i (by omega); first | omega | simp_all), rfl⟩
                      ·
                        have k21 := bp h21
                        refine AW.skip ?_
                        refine AW.region ?_
                        refine st (V.add64 (by omega)) ?_
                        refine st V.move ?_
                        refine sn ?_
                        refine thn_normal ?_
                        refine rnd (n - 1) _ (by omega) (by repeat first | exact List.Sublist.refl _ | apply List.Sublist.cons) ⟨i + 1, by simp, rfl, by omega, fun j h hj => ?_⟩
                        rcases Nat.lt_or_ge j i with hji | hji
                        · exact hall j h hji
                        · obtain rfl : j = i := by omega
                          refine ⟨?_, by omega, ?_⟩ <;> simp_all
                    ·
                      have k20 := bp h20
                      refine off rfl h20 ?_
                      refine off rfl h20 ?_
                      refine st (V.pT h20) ?_
                      refine sn ?_
                      refine cond (fun _ => ?_) (fun h => by cases h)
                      refine AW.seq ?_
                      refine AW.region ?_
                      refine st V.assign ?_
                      refine sn ?_
                      refine AW.ret ?_
                      repeat with_reducible first | refine thn_ret ?_ | refine inb_ret ?_
                      refine fin (Res.i1 rfl) ?_
                      exact ⟨_, (by repeat first | exact List.Sublist.refl _ | apply List.Sublist.cons), by first | contradiction | exact tt_t ⟨z0, ‹_›, by omega, by assumption, by assumption, by omega, fun j h => hall j h (by omega)⟩ | exact tt_f fun ⟨a0, a1, a2, a3, a4, a5, a6⟩ => by first | omega | contradiction | (obtain ⟨x1, x2, x3⟩ := a6 i (by omega); first | omega | simp_all), rfl⟩
                  ·
                    have k19 := bp h19
                    refine off rfl h19 ?_
                    refine off rfl h19 ?_
                    refine off rfl h19 ?_
                    refine st (V.pT h19) ?_
                    refine st V.move ?_
                    refine off rfl rfl ?_
                    refine off rfl rfl ?_
                    refine off rfl rfl ?_
                    refine st (V.pT rfl) ?_
                    refine sn ?_
                    refine cond (fun _ => ?_) (fun h => by cases h)
                    refine AW.seq ?_
                    refine AW.region ?_
                    refine st V.assign ?_
                    refine sn ?_
                    refine AW.ret ?_
                    repeat with_reducible first | refine thn_ret ?_ | refine inb_ret ?_
                    refine fin (Res.i1 rfl) ?_
                    exact ⟨_, (by repeat first | exact List.Sublist.refl _ | apply List.Sublist.cons), by first | contradiction | exact tt_t ⟨z0, ‹_›, by omega, by assumption, by assumption, by omega, fun j h => hall j h (by omega)⟩ | exact tt_f fun ⟨a0, a1, a2, a3, a4, a5, a6⟩ => by first | omega | contradiction | (obtain ⟨x1, x2, x3⟩ := a6 i (by omega); first | omega | simp_all), rfl⟩
                ·
                  have k18 := bp h18
                  refine AW.exit ?_
                  repeat with_reducible refine thn_exit ?_
                  refine inb_exit ?_
                  refine AW.seq ?_
                  refine AW.region ?_
                  refine st V.assign ?_
                  refine sn ?_
                  refine AW.ret ?_
                  repeat with_reducible first | refine thn_ret ?_ | refine inb_ret ?_
                  refine fin (Res.i1 rfl) ?_
                  exact ⟨_, (by repeat first | exact List.Sublist.refl _ | apply List.Sublist.cons), by first | contradiction | exact tt_t ⟨z0, ‹_›, by omega, by assumption, by assumption, by omega, fun j h => hall j h (by omega)⟩ | exact tt_f fun ⟨a0, a1, a2, a3, a4, a5, a6⟩ => by first | omega | contradiction | (obtain ⟨x1, x2, x3⟩ := a6 i (by omega); first | omega | simp_all), rfl⟩
            ·
              have k16 := bp h16
              refine off rfl h16 ?_
              refine off rfl h16 ?_
              refine off rfl h16 ?_
              refine off rfl h16 ?_
              refine off rfl h16 ?_
              refine off rfl h16 ?_
              refine off rfl h16 ?_
              refine st (V.pT h16) ?_
              refine sn ?_
              refine cond (fun _ => ?_) (fun h => by cases h)
              refine AW.seq ?_
              refine AW.region ?_
              refine st V.assign ?_
              refine sn ?_
              refine AW.ret ?_
              repeat with_reducible first | refine thn_ret ?_ | refine inb_ret ?_
              refine fin (Res.i1 rfl) ?_
              exact ⟨_, (by repeat first | exact List.Sublist.refl _ | apply List.Sublist.cons), by first | contradiction | exact tt_t ⟨z0, ‹_›, by omega, by assumption, by assumption, by omega, fun j h => hall j h (by omega)⟩ | exact tt_f fun ⟨a0, a1, a2, a3, a4, a5, a6⟩ => by first | omega | contradiction | (obtain ⟨x1, x2, x3⟩ := a6 i (by omega); first | omega | simp_all), rfl⟩
          ·
            have k15 := bp h15
            refine off rfl h15 ?_
            refine off rfl h15 ?_
            refine st (V.pT h15) ?_
            refine st V.move ?_
            refine off rfl rfl ?_
            refine off rfl rfl ?_
            refine off rfl rfl ?_
            refine off rfl rfl ?_
            refine off rfl rfl ?_
            refine off rfl rfl ?_
            refine off rfl rfl ?_
            refine off rfl rfl ?_
            refine st (V.pT rfl) ?_
            refine sn ?_
            refine cond (fun _ => ?_) (fun h => by cases h)
            refine AW.seq ?_
            refine AW.region ?_
            refine st V.assign ?_
            refine sn ?_
            refine AW.ret ?_
            repeat with_reducible first | refine thn_ret ?_ | refine inb_ret ?_
            refine fin (Res.i1 rfl) ?_
            exact ⟨_, (by repeat first | exact List.Sublist.refl _ | apply List.Sublist.cons), by first | contradiction | exact tt_t ⟨z0, ‹_›, by omega, by assumption, by assumption, by omega, fun j h => hall j h (by omega)⟩ | exact tt_f fun ⟨a0, a1, a2, a3, a4, a5, a6⟩ => by first | omega | contradiction | (obtain ⟨x1, x2, x3⟩ := a6 i (by omega); first | omega | simp_all), rfl⟩
    ·
      have k2 := bp h2
      refine off rfl h2 ?_
      refine off rfl h2 ?_
      refine off rfl h2 ?_
      refine off rfl h2 ?_
      refine off rfl h2 ?_
      refine st (V.pT h2) ?_
      refine sn ?_
      refine cond (fun _ => ?_) (fun h => by cases h)
      refine AW.seq ?_
      refine AW.region ?_
      refine st V.assign ?_
      refine sn ?_
      refine AW.ret ?_
      repeat with_reducible first | refine thn_ret ?_ | refine inb_ret ?_
      refine fin (Res.i1 rfl) ?_
      exact ⟨_, (by repeat first | exact List.Sublist.refl _ | apply List.Sublist.cons), by first | contradiction | exact tt_t ⟨z0, ‹_›, by omega, by assumption, by assumption, by omega, fun j h => hall j h (by omega)⟩ | exact tt_f fun ⟨a0, a1, a2, a3, a4, a5, a6⟩ => by first | omega | contradiction | (obtain ⟨x1, x2, x3⟩ := a6 i (by omega); first | omega | simp_all), rfl⟩
  ·
    have k1 := bp h1
    refine off rfl h1 ?_
    refine off rfl h1 ?_
    refine off rfl h1 ?_
    refine off rfl h1 ?_
    refine st (V.pT h1) ?_
    refine st V.move ?_
    refine off rfl rfl ?_
    refine off rfl rfl ?_
    refine off rfl rfl ?_
    refine off rfl rfl ?_
    refine off rfl rfl ?_
    refine off rfl rfl ?_
    refine st (V.pT rfl) ?_
    refine sn ?_
    refine cond (fun _ => ?_) (fun h => by cases h)
    refine AW.seq ?_
    refine AW.region ?_
    refine st V.assign ?_
    refine sn ?_
    refine AW.ret ?_
    repeat with_reducible first | refine thn_ret ?_ | refine inb_ret ?_
    refine fin (Res.i1 rfl) ?_
    exact ⟨_, (by repeat first | exact List.Sublist.refl _ | apply List.Sublist.cons), by first | contradiction | exact tt_t ⟨z0, ‹_›, by omega, by assumption, by assumption, by omega, fun j h => hall j h (by omega)⟩ | exact tt_f fun ⟨a0, a1, a2, a3, a4, a5, a6⟩ => by first | omega | contradiction | (obtain ⟨x1, x2, x3⟩ := a6 i (by omega); first | omega | simp_all), rfl⟩
end Go.Proofs.YtieaiheejhmbfaaGreatDoor.ML
