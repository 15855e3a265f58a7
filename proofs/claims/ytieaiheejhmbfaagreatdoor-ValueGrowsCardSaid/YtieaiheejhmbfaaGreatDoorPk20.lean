/- Sameness of values is an equivalence's reflexive and symmetric law. No conditions. -/
import Derived.Test.YtieaiheejhmbfaaGreatDoorPk18
namespace Go.Proofs.YtieaiheejhmbfaaGreatDoor.ML
open Go.RowKit
set_option linter.unusedVariables false
set_option linter.unusedSimpArgs false
mutual
theorem same_refl : ∀ v : VT, same v v = true
  | .mk n c l => by rw [same, sameL_refl l]; simp
theorem sameL_refl : ∀ l : List VT, sameL l l = true
  | [] => by rw [sameL]
  | v :: l => by rw [sameL, same_refl v, sameL_refl l]; rfl
end
mutual
theorem same_comm : ∀ v w : VT, same v w = same w v
  | .mk n c l, .mk n' c' l' => by rw [same, same, sameL_comm l l', show decide (n = n') = decide (n' = n) from by rw [decide_eq_decide]; exact eq_comm, show decide (c = c') = decide (c' = c) from by rw [decide_eq_decide]; exact eq_comm]
theorem sameL_comm : ∀ l l' : List VT, sameL l l' = sameL l' l
  | [], [] => rfl
  | [], _ :: _ => by rw [sameL, sameL] <;> simp
  | _ :: _, [] => by rw [sameL, sameL] <;> simp
  | v :: l, w :: l' => by rw [sameL, sameL, same_comm v w, sameL_comm l l']
end
section
variable {P : Program} {tm : Tm} {M : Mem} {H : Heap} {gd : Option (Nat × Bool)} {ty : TypeId} {pos : String} {aft : Array Edge} {x y : Operand} {T T' : TypeId} {dd : Option Tmp} {a b : Bool}
theorem V.eqbT (he : a = b) [h : Bl P T] [hx : Ev tm x (.bool a)] [hy : Ev tm y (.bool b)] : PVM P ⟨dd, .binOp .eql T x y T', ty, pos, aft, gd⟩ tm M (.bool true) := by
  have := V.eqb (P := P) (M := M) (dd := dd) (ty := ty) (pos := pos) (aft := aft) (gd := gd) (T := T) (T' := T') (x := x) (y := y) (tm := tm) (a := a) (b := b)
  rwa [he, beq_self_eq_true] at this
end
end Go.Proofs.YtieaiheejhmbfaaGreatDoor.ML
/- Walks of functions of the program, in the abstract layer. No conditions. -/
namespace Go.Proofs.YtieaiheejhmbfaaGreatDoor.ML
open Go.RowKit
set_option linter.unusedVariables false
set_option linter.unusedSimpArgs false
set_option maxHeartbeats 1600000 in
set_option synthInstance.maxHeartbeats 400000 in
set_option synthInstance.maxSize 100000 in
set_option maxRecDepth 100000 in
theorem r_same_c : ∀ (s : Nat) (a b : VT), SizeOf.sizeOf a < s → ∀ (M : Mem) (H : Heap) (Aa : Option Addr) (ca : Nat) (Ab : Option Addr) (cb : Nat), VV M Aa ca a → VV M Ab cb b →
    AC Tryz.prog 21 [.agg #[.int .i64 a.num, .int .i64 a.con, .slice Aa a.args.length ca], .agg #[.int .i64 b.num, .int .i64 b.con, .slice Ab b.args.length cb]] M H fun v _ H' => v = .bool (same a b) ∧ H' = H
  | 0, _, _, hs => by omega
  | s + 1, .mk an ac al, .mk bn bc bl, hs => by
    intro M H Aa ca Ab cb ha hb
    simp only [VT.num, VT.con, VT.args]
    refine AC.of (n := 44) Tryz.func21 rfl rfl ?_
    dsimp only [List.replicate, List.cons_append, List.nil_append]
    refine AW.seq ?_
    refine AW.region ?_
    refine se (S.boxM ?_); intro b2 M2 i2 j2
    refine se (S.boxM ?_); intro b3 M3 i3 j3
    refine st V.assign ?_
    refine sn ?_
    refine AW.seq ?_
    refine AW.seq ?_
    have ha := ha.up (M' := M3)
    have hb := hb.up (M' := M3)
    refine AW.region ?_
    refine st V.fa0 ?_
    first | refine st V.ld ?_ | refine sq V.lo ?_
    refine st V.fa0 ?_
    first | refine st V.ld ?_ | refine sq V.lo ?_
    refine st V.neq ?_
    refine st V.move ?_
    refine onoff true rfl rfl (fun h1 => ?_) (fun h1 => ?_)
    ·
      have k1 := bp h1
      refine st V.faz ?_
      refine on rfl h1 ?_
      first | refine st V.ld ?_ | refine sq V.lo ?_
      refine on rfl h1 ?_
      refine st V.faz ?_
      refine on rfl h1 ?_
      first | refine st V.ld ?_ | refine sq V.lo ?_
      refine on rfl h1 ?_
      refine st V.neq ?_
      refine st (V.pF h1) ?_
      refine st V.move ?_
      refine onoff true rfl rfl (fun h2 => ?_) (fun h2 => ?_)
      ·
        have k2 := bp h2
        refine st V.faz ?_
        refine on rfl h2 ?_
        first | refine st V.ld ?_ | refine sq V.lo ?_
        refine on rfl h2 ?_
        refine st V.len ?_
        refine on rfl h2 ?_
        refine st V.faz ?_
        refine on rfl h2 ?_
        first | refine st V.ld ?_ | refine sq V.lo ?_
        refine on rfl h2 ?_
        refine st V.len ?_
        refine on rfl h2 ?_
        refine st V.neq ?_
        refine st (V.pF h2) ?_
        refine sn ?_
        refine cond (fun h3 => ?_) (fun h3 => ?_)
        ·
          have k3 := bp h3
          refine AW.seq ?_
          refine AW.region ?_
          refine st V.assign ?_
          refine sn ?_
          refine AW.ret ?_
          repeat with_reducible first | refine thn_ret ?_ | refine inb_ret ?_
          refine fin (Res.i1 rfl) ?_
          refine ⟨_, (by repeat first | exact List.Sublist.refl _ | apply List.Sublist.cons), ?_, rfl⟩
          have h3 : al.length ≠ bl.length := fun e => by rw [e] at h3; simp at h3
          simp [same, sameL_bne h3]
        ·
          have k3 := bp h3
          refine AW.skip ?_
          refine AW.seq ?_
          refine AW.seq ?_
          refine AW.region ?_
          refine st V.assign ?_
          refine sn ?_
          refine AW.block ?_
          refine AW.loopL [5] (4 :: 27 :: 28 :: 29 :: 30 :: 31 :: 32 :: 33 :: 34 :: 35 :: 36 :: 37 :: 38 :: 39 :: 40 :: 41 :: 42 :: 43 :: 44 :: 45 :: []) (fun n vs M' H' => ∃ i : Nat, vs = [.int .i64 (i : Int)] ∧ H' = H ∧ i + n = al.length ∧ (∀ j (h : j < al.length) (h' : j < bl.length), j < i → same al[j] bl[j] = true)) (al.length) (⟨0, rfl, rfl, by omega, fun j _ _ h => by omega⟩) ?_
          intro n Ml Hl iL u5 hI u4 u27 u28 u29 u30 u31 u32 u33 u34 u35 u36 u37 u38 u39 u40 u41 u42 u43 u44 u45
          obtain ⟨i, hv, rfl, hi, hall⟩ := hI
          cases hv
          refine sa ?_
          refine AW.seq ?_
          refine AW.seq ?_
          refine AW.region ?_
          refine st V.move ?_
          refine st V.faz ?_
          first | refine st V.ld ?_ | refine sq V.lo ?_
          refine st V.len ?_
          refine st V.lss ?_
          refine sn ?_
          refine cond (fun h4 => ?_) (fun h4 => ?_)
          ·
            have k4 := bp h4
            refine AW.skip ?_
            refine AW.seq ?_
            refine AW.block ?_
            refine AW.seq ?_
            have e3 : al.length = bl.length := by have := (by simpa using h3 : (al.length : Int) = bl.length); omega
            have e4 : i < al.length := by simpa using h4
            have ha := ha.up (M' := Ml)
            have hb := hb.up (M' := Ml)
            have hbd : al.length ≤ _ := ha.bd
            obtain ⟨ba, oa, hAa, ea⟩ := ha.at i (by show i < al.length; omega)
            obtain ⟨bb, ob, hAb, eb⟩ := hb.at i (by show i < bl.length; omega)
            simp only [VT.args] at ea eb
            obtain ⟨Ax, cx, x0, x1, x2, xs⟩ := ea.get
            obtain ⟨Ay, cy, y0, y1, y2, ys⟩ := eb.get
            refine AW.regionD mx true [0, 1, 2, 3, 4, 5, 6, 7, 8, 9, 10, 11] [[], [0], [], [0, 1, 2], [0, 1, 2, 3], [], [5], [], [5, 6, 7], [5, 6, 7, 8], [0, 1, 2, 3, 4, 5, 6, 7, 8, 9], [0, 1, 2, 3, 4, 5, 6, 7, 8, 9, 10]] (by kernel_rfl) ?_
            refine D.p rfl rfl V.faz ?_
            refine D.p rfl rfl V.ld ?_
            refine D.p rfl rfl V.move ?_
            refine D.p rfl rfl (V.ib i rfl (by omega) hAa) ?_
            refine D.p rfl rfl V.ldA ?_
            refine D.p rfl rfl V.faz ?_
            refine D.p rfl rfl V.ld ?_
            refine D.p rfl rfl V.move ?_
            refine D.p rfl rfl (V.ib i rfl (by omega) hAb) ?_
            refine D.p rfl rfl V.ldA ?_
            refine D.e rfl rfl (S.call ?_)
            refine (r_same_c s _ _ (by have := List.sizeOf_lt_of_mem (List.getElem_mem (l := al) (n := i) (by omega)); simp at hs; omega) _ _ _ _ _ _ xs ys).mono ?_
            rintro v M1 H1 i1 ⟨rfl, rfl⟩
            refine D.p rfl rfl V.not ?_
            refine D.nl ?_
            refine cond (fun h5 => ?_) (fun h5 => ?_)
            ·
              have k5 := bp h5
              refine AW.seq ?_
              refine AW.region ?_
              refine st V.assign ?_
              refine sn ?_
              refine AW.ret ?_
              repeat with_reducible first | refine thn_ret ?_ | refine inb_ret ?_
              refine fin (Res.i1 rfl) ?_
              refine ⟨_, (by repeat first | exact List.Sublist.refl _ | apply List.Sublist.cons), ?_, rfl⟩
              have h5' : same al[i] bl[i] = false := by simpa using h5
              rw [same, sameL_at i e4 (by omega) h5']
              simp
            ·
              have k5 := bp h5
              refine AW.skip ?_
              refine AW.region ?_
              refine st V.move ?_
              refine st (V.add64 (by omega)) ?_
              refine st V.assign ?_
              refine sn ?_
              repeat with_reducible refine inb_normal ?_
              refine thn_normal ?_
              refine rnd (n - 1) _ (by omega) (List.Sublist.refl _) ⟨i + 1, by simp, rfl, by omega, fun j h h' hj => ?_⟩
              rcases Nat.lt_or_ge j i with hji | hji
              · exact hall j h h' hji
              · obtain rfl : j = i := by omega
                simpa using h5
          ·
            have k4 := bp h4
            refine AW.exit ?_
            repeat with_reducible refine thn_exit ?_
            refine inb_exit ?_
            refine AW.seq ?_
            refine AW.region ?_
            refine st V.assign ?_
            refine sn ?_
            refine AW.ret ?_
            repeat with_reducible first | refine thn_ret ?_ | refine inb_ret ?_
            refine fin (Res.i1 rfl) ?_
            refine ⟨_, (by repeat first | exact List.Sublist.refl _ | apply List.Sublist.cons), ?_, rfl⟩
            have e3 : al.length = bl.length := by have := (by simpa using h3 : (al.length : Int) = bl.length); omega
            have e4 : al.length ≤ i := by simpa using h4
            have hL : sameL al bl = true := (sameL_iff al bl).2 ⟨e3, fun j h h' => hall j h h' (by omega)⟩
            simp at h1 h2
            simp [same, hL, h1, h2]
      ·
        have k2 := bp h2
        refine off rfl h2 ?_
        refine off rfl h2 ?_
        refine off rfl h2 ?_
        refine off rfl h2 ?_
        refine off rfl h2 ?_
        refine off rfl h2 ?_
        refine st (V.pT h2) ?_
        refine sn ?_
        refine cond (fun _ => ?_) (fun h => by cases h)
        refine AW.seq ?_
        refine AW.region ?_
        refine st V.assign ?_
        refine sn ?_
        refine AW.ret ?_
        repeat with_reducible first | refine thn_ret ?_ | refine inb_ret ?_
        refine fin (Res.i1 rfl) ?_
        refine ⟨_, (by repeat first | exact List.Sublist.refl _ | apply List.Sublist.cons), ?_, rfl⟩
        simp at h2
        simp [same, h2]
    ·
      have k1 := bp h1
      refine off rfl h1 ?_
      refine off rfl h1 ?_
      refine off rfl h1 ?_
      refine off rfl h1 ?_
      refine st (V.pT h1) ?_
      refine st V.move ?_
      refine off rfl rfl ?_
      refine off rfl rfl ?_
      refine off rfl rfl ?_
      refine off rfl rfl ?_
      refine off rfl rfl ?_
      refine off rfl rfl ?_
      refine off rfl rfl ?_
      refine st (V.pT rfl) ?_
      refine sn ?_
      refine cond (fun _ => ?_) (fun h => by cases h)
      refine AW.seq ?_
      refine AW.region ?_
      refine st V.assign ?_
      refine sn ?_
      refine AW.ret ?_
      repeat with_reducible first | refine thn_ret ?_ | refine inb_ret ?_
      refine fin (Res.i1 rfl) ?_
      refine ⟨_, (by repeat first | exact List.Sublist.refl _ | apply List.Sublist.cons), ?_, rfl⟩
      simp at h1
      simp [same, h1]
end Go.Proofs.YtieaiheejhmbfaaGreatDoor.ML
