/- Walks of functions of the program, in the abstract layer. No conditions. -/
import Derived.Test.YtieaiheejhmbfaaGreatDoorPk6
import Derived.Test.YtieaiheejhmbfaaGreatDoorPk4
namespace Go.Proofs.YtieaiheejhmbfaaGreatDoor.ML
open Go.RowKit
set_option linter.unusedVariables false
set_option linter.unusedSimpArgs false
set_option maxHeartbeats 1600000 in
set_option synthInstance.maxHeartbeats 400000 in
set_option synthInstance.maxSize 100000 in
set_option maxRecDepth 100000 in
theorem check1_c (M : Mem) (H : Heap) (b : Nat) (A : Option Addr) (c n : Nat) (hb : Mb M b [.slice A n c]) (t : Int) :
    AC Tryz.prog 94 [.int .i64 t, .pointer (some ⟨b, 0, none⟩)] M H fun v _ H' => v = .bool (!decide (0 ≤ t ∧ t ≤ n)) ∧ H' = H := by
  refine AC.of (n := 6) Tryz.func94 rfl rfl ?_
  dsimp only [List.replicate, List.cons_append, List.nil_append]
  refine AW.seq ?_
  refine AW.region ?_
  refine st V.assign ?_
  refine sn ?_
  refine AW.seq ?_
  refine AW.region ?_
  first | refine st V.ld ?_ | refine sq V.lo ?_
  refine st V.move ?_
  refine se (S.call ?_)
  refine (exists_c _ H A c n t).use ?_
  rintro v N G z ⟨rfl, hG⟩
  obtain rfl := hG.symm
  refine st V.not ?_
  refine st V.assign ?_
  refine sn ?_
  refine AW.ret ?_
  repeat with_reducible first | refine thn_ret ?_ | refine inb_ret ?_
  refine fin (Res.i1 rfl) ?_
  exact ⟨_, (by repeat first | exact List.Sublist.refl _ | apply List.Sublist.cons), rfl, rfl⟩
set_option maxHeartbeats 1600000 in
set_option synthInstance.maxHeartbeats 400000 in
set_option synthInstance.maxSize 100000 in
set_option maxRecDepth 100000 in
theorem flat1_c (M : Mem) (H : Heap) (nm : ByteArray) (A : Option Addr) (n c : Nat) :
    AC Tryz.prog 120 [.agg #[.string nm, .slice A n c]] M H fun v _ H' => v = .bool (decide (0 < (n : Int))) ∧ H' = H := by
  refine AC.of (n := 6) Tryz.func120 rfl rfl ?_
  dsimp only [List.replicate, List.cons_append, List.nil_append]
  refine AW.seq ?_
  refine AW.region ?_
  refine se (S.boxM ?_); intro b1 M1 i1 j1
  refine st V.assign ?_
  refine sn ?_
  refine AW.seq ?_
  refine AW.region ?_
  refine st V.faz ?_
  first | refine st V.ld ?_ | refine sq V.lo ?_
  refine st V.len ?_
  refine st V.gtr ?_
  refine st V.assign ?_
  refine sn ?_
  refine AW.ret ?_
  repeat with_reducible first | refine thn_ret ?_ | refine inb_ret ?_
  refine fin (Res.i1 rfl) ?_
  exact ⟨_, (by repeat first | exact List.Sublist.refl _ | apply List.Sublist.cons), rfl, rfl⟩
set_option maxHeartbeats 1600000 in
set_option synthInstance.maxHeartbeats 400000 in
set_option synthInstance.maxSize 100000 in
set_option maxRecDepth 100000 in
theorem flat_c (M : Mem) (H : Heap) (A : Option Addr) (c : Nat) (d : List DT) (t : Int) (hd : RdS 2 (RdD M) A c d) :
    AC Tryz.prog 98 [.slice A d.length c, .int .i64 t] M H fun v _ H' => v = .bool (flatF d t) ∧ H' = H := by
  refine AC.of (n := 13) Tryz.func98 rfl rfl ?_
  dsimp only [List.replicate, List.cons_append, List.nil_append]
  refine AW.seq ?_
  refine AW.region ?_
  refine st V.assign ?_
  refine sn ?_
  refine AW.seq ?_
  refine AW.region ?_
  refine st V.move ?_
  refine st V.move ?_
  refine se (S.call ?_)
  refine (exists_c _ _ A c d.length t).use ?_
  rintro v N G z ⟨rfl, hG⟩
  obtain rfl := hG.symm
  refine st V.move ?_
  refine onoff false rfl rfl (fun h1 => ?_) (fun h1 => ?_)
  ·
    have k1 := bp h1
    refine st V.move ?_
    refine on rfl h1 ?_
    refine st V.move ?_
    refine on rfl h1 ?_
    refine se (S.call ?_)
    refine (cons_c _ _ A c d t hd.upD).use ?_
    rintro v1 N1 G1 z1 ⟨⟨A1, c1, rfl, e1⟩, rfl⟩
    refine on rfl h1 ?_
    refine se (S.call (fst := []) (cap := []) ?_)
    refine (conC_c 120 [] (fun c => decide (0 < (c.fields.length : Int))) _ _ A1 c1 _ e1.upC (fun M' _ x B k _ _ _ => flat1_c M' _ x.name B _ k)).use ?_
    rintro v2 N2 G2 z2 ⟨rfl, hG⟩
    obtain rfl := hG.symm
    refine on rfl h1 ?_
    refine st V.not ?_
    refine st (V.pT h1) ?_
    refine st V.assign ?_
    refine sn ?_
    refine AW.ret ?_
    repeat with_reducible first | refine thn_ret ?_ | refine inb_ret ?_
    refine fin (Res.i1 rfl) ?_
    exact ⟨_, (by repeat first | exact List.Sublist.refl _ | apply List.Sublist.cons), by rw [flatF, h1]; simp, rfl⟩
  ·
    have k1 := bp h1
    refine off rfl h1 ?_
    refine off rfl h1 ?_
    refine off rfl h1 ?_
    refine off rfl h1 ?_
    refine st (V.pF h1) ?_
    refine st V.assign ?_
    refine sn ?_
    refine AW.ret ?_
    repeat with_reducible first | refine thn_ret ?_ | refine inb_ret ?_
    refine fin (Res.i1 rfl) ?_
    exact ⟨_, (by repeat first | exact List.Sublist.refl _ | apply List.Sublist.cons), by rw [flatF, h1]; simp, rfl⟩
set_option maxHeartbeats 1600000 in
set_option synthInstance.maxHeartbeats 400000 in
set_option synthInstance.maxSize 100000 in
set_option maxRecDepth 100000 in
theorem con1_c (M : Mem) (H : Heap) (s : ByteArray) (b : Nat) (hb : Mb M b [.string s]) (nm : ByteArray) (A : Option Addr) (n c : Nat) :
    AC Tryz.prog 77 [.agg #[.string nm, .slice A n c], .pointer (some ⟨b, 0, none⟩)] M H fun v _ H' => v = .bool (decide (nm = s)) ∧ H' = H := by
  refine AC.of (n := 6) Tryz.func77 rfl rfl ?_
  dsimp only [List.replicate, List.cons_append, List.nil_append]
  refine AW.seq ?_
  refine AW.region ?_
  refine se (S.boxM ?_); intro b2 M2 i2 j2
  refine st V.assign ?_
  refine sn ?_
  refine AW.seq ?_
  refine AW.region ?_
  refine st V.fa0 ?_
  first | refine st V.ld ?_ | refine sq V.lo ?_
  first | refine st V.ld ?_ | refine sq V.lo ?_
  refine st V.eqs ?_
  refine st V.assign ?_
  refine sn ?_
  refine AW.ret ?_
  repeat with_reducible first | refine thn_ret ?_ | refine inb_ret ?_
  refine fin (Res.i1 rfl) ?_
  exact ⟨_, (by repeat first | exact List.Sublist.refl _ | apply List.Sublist.cons), rfl, rfl⟩
set_option maxHeartbeats 1600000 in
set_option synthInstance.maxHeartbeats 400000 in
set_option synthInstance.maxSize 100000 in
set_option maxRecDepth 100000 in
theorem con_c (M : Mem) (H : Heap) (A : Option Addr) (c : Nat) (d : List DT) (hd : RdS 2 (RdD M) A c d) (s : ByteArray) :
    AC Tryz.prog 47 [.slice A d.length c, .string s] M H fun v _ H' => v = .tuple #[.int .i64 (conF s d 1).1, .int .i64 (conF s d 1).2.1, .bool (conF s d 1).2.2] ∧ H' = H := by
  refine AC.of (n := 25) Tryz.func47 rfl rfl ?_
  dsimp only [List.replicate, List.cons_append, List.nil_append]
  refine AW.seq ?_
  refine AW.region ?_
  refine se (S.boxM ?_); intro b3 M3 i3 j3
  refine st V.assign ?_
  refine st V.assign ?_
  refine st V.assign ?_
  refine sn ?_
  refine AW.seq ?_
  refine AW.seq ?_
  refine AW.region ?_
  refine st V.move ?_
  refine st V.len ?_
  refine st V.move ?_
  refine sn ?_
  refine AW.block ?_
  refine AW.loopL [12] (4 :: 5 :: 6 :: 7 :: 8 :: 9 :: 13 :: 14 :: 15 :: 16 :: 17 :: 18 :: 19 :: 20 :: 21 :: 22 :: 23 :: 24 :: 25 :: 26 :: []) (fun n vs M' H' => ∃ i : Nat, vs = [.int .i64 (i : Int)] ∧ H' = H ∧ i + n = d.length ∧ conF s d 1 = conF s (d.drop i) ((i : Int) + 1)) (d.length) (⟨0, rfl, rfl, by omega, rfl⟩) ?_
  intro n Ml Hl iL u12 hI u4 u5 u6 u7 u8 u9 u13 u14 u15 u16 u17 u18 u19 u20 u21 u22 u23 u24 u25 u26
  obtain ⟨i, hv, rfl, hi, hall⟩ := hI
  cases hv
  refine sa ?_
  refine AW.seq ?_
  refine AW.region ?_
  refine st V.lss ?_
  refine sn ?_
  refine AW.seq ?_
  refine cond (fun h1 => ?_) (fun h1 => ?_)
  ·
    have k1 := bp h1
    refine AW.skip ?_
    refine AW.seq ?_
    refine AW.block ?_
    refine AW.seq ?_
    have z4 : i < d.length := by omega
    have hbd := hd.bd
    obtain ⟨b8, o8, hA8, i0, ib0, A8, c8, i1, i2⟩ := (hd.upD (M' := Ml)).at i z4
    refine AW.region ?_
    refine st V.move ?_
    refine st (V.ib i rfl z4 hA8) ?_
    first | refine st V.ldA ?_ | refine sq V.loA ?_
    refine se (S.alloc ?_); intro b8
    refine st V.assign ?_
    refine se (S.storeA rfl ?_)
    refine sn ?_
    refine AW.seq ?_
    refine AW.region ?_
    refine st V.faz ?_
    first | refine st V.ld ?_ | refine sq V.lo ?_
    refine st V.fn ?_
    refine se (S.call (fst := []) (cap := []) ?_)
    refine (idxC_c 77 [.pointer (some ⟨b3, 0, none⟩)] (fun c : CT => decide (c.name = s)) _ _ A8 c8 _ i2.upC (fun M' _ x B k _ _ _ => con1_c M' _ s b3 (Mb.up (M := Ml) inferInstance) x.name B _ k)).use ?_
    rintro v N G z ⟨rfl, hG⟩
    obtain rfl := hG.symm
    refine st V.assign ?_
    refine sn ?_
    refine AW.seq ?_
    refine AW.region ?_
    refine st V.move ?_
    refine st V.geq ?_
    refine sn ?_
    refine cond (fun h2 => ?_) (fun h2 => ?_)
    ·
      have k2 := bp h2
      refine AW.seq ?_
      refine AW.region ?_
      refine st V.move ?_
      refine st (V.add64 (by omega)) ?_
      refine st V.move ?_
      refine st V.assign ?_
      refine st V.assign ?_
      refine st V.assign ?_
      refine sn ?_
      refine AW.ret ?_
      repeat with_reducible first | refine thn_ret ?_ | refine inb_ret ?_
      refine fin (Res.i3 rfl) ?_
      refine ⟨_, (by repeat first | exact List.Sublist.refl _ | apply List.Sublist.cons), ?_, rfl⟩
      rw [hall, conF_at s d i z4, if_pos k2]
    ·
      have k2 := bp h2
      refine AW.skip ?_
      refine AW.region ?_
      refine st (V.add64 (by omega)) ?_
      refine st V.move ?_
      refine sn ?_
      repeat with_reducible refine inb_normal ?_
      refine thn_normal ?_
      refine rnd (n - 1) _ (by omega) (by repeat first | exact List.Sublist.refl _ | apply List.Sublist.cons) ⟨i + 1, by simp, rfl, by omega, ?_⟩
      rw [hall, conF_at s d i z4, if_neg k2]; rfl
  ·
    have k1 := bp h1
    refine AW.exit ?_
    repeat with_reducible refine thn_exit ?_
    refine inb_exit ?_
    refine AW.seq ?_
    refine AW.region ?_
    refine st V.assign ?_
    refine st V.assign ?_
    refine st V.assign ?_
    refine sn ?_
    refine AW.ret ?_
    repeat with_reducible first | refine thn_ret ?_ | refine inb_ret ?_
    refine fin (Res.i3 rfl) ?_
    refine ⟨_, (by repeat first | exact List.Sublist.refl _ | apply List.Sublist.cons), ?_, rfl⟩
    rw [hall, List.drop_eq_nil_of_le (by omega)]; rfl
set_option maxHeartbeats 1600000 in
set_option synthInstance.maxHeartbeats 400000 in
set_option synthInstance.maxSize 100000 in
set_option maxRecDepth 100000 in
theorem idxB_c (M : Mem) (H : Heap) (g c r n : Nat) (mk : List Bool) (hn : mk.length = n) (hr : H[r]? = some (.row (some ⟨g, 0, none⟩) n c 4 1 (mk.map .bool))) (t : Bool) (hb : mk.length ≤ 281474976710656) :
    AC Tryz.prog 131 [.slice (some ⟨g, 0, none⟩) n c, .bool t] M H fun v _ H' => v = .int .i64 (idxP (fun x => t == x) mk) ∧ H' = H := by
  subst hn
  refine AC.of (n := 17) Tryz.func131 rfl rfl ?_
  dsimp only [List.replicate, List.cons_append, List.nil_append]
  refine AW.seq ?_
  refine AW.region ?_
  refine st V.assign ?_
  refine sn ?_
  refine AW.seq ?_
  refine AW.seq ?_
  refine AW.region ?_
  refine st V.move ?_
  refine st V.len ?_
  refine st V.move ?_
  refine sn ?_
  refine AW.block ?_
  refine AW.loopL [8] (4 :: 5 :: 9 :: 10 :: 11 :: 12 :: 13 :: 14 :: 15 :: 16 :: 17 :: 18 :: []) (fun n vs M' H' => ∃ i : Nat, vs = [.int .i64 (i : Int)] ∧ H' = H ∧ i + n = mk.length ∧ (∀ j (h : j < mk.length), j < i → (t == mk[j]) = false)) (mk.length) (⟨0, rfl, rfl, by omega, fun j _ h => by omega⟩) ?_
  intro n Ml Hl iL u8 hI u4 u5 u9 u10 u11 u12 u13 u14 u15 u16 u17 u18
  obtain ⟨i, hv, rfl, hi, hall⟩ := hI
  cases hv
  refine sa ?_
  refine AW.seq ?_
  refine AW.region ?_
  refine st V.lss ?_
  refine sn ?_
  refine AW.seq ?_
  refine cond (fun h1 => ?_) (fun h1 => ?_)
  ·
    have k1 := bp h1
    refine AW.skip ?_
    refine AW.seq ?_
    refine AW.block ?_
    refine AW.seq ?_
    refine AW.region ?_
    refine st V.move ?_
    refine st V.assign ?_
    refine sn ?_
    refine AW.seq ?_
    have e4 : i < mk.length := by simpa using h1
    refine AW.region ?_
    refine st V.move ?_
    refine st V.move ?_
    refine st V.move ?_
    refine st (V.ib i rfl e4 rfl) ?_
    refine sq (V.lr (v := .bool mk[i]) r hr (by simp [e4])) ?_
    refine st V.eqb ?_
    refine sn ?_
    refine cond (fun h2 => ?_) (fun h2 => ?_)
    ·
      have k2 := bp h2
      refine AW.seq ?_
      refine AW.region ?_
      refine st V.move ?_
      refine st V.assign ?_
      refine sn ?_
      refine AW.ret ?_
      repeat with_reducible first | refine thn_ret ?_ | refine inb_ret ?_
      refine fin (Res.i1 rfl) ?_
      exact ⟨_, (by repeat first | exact List.Sublist.refl _ | apply List.Sublist.cons), by rw [idxP_at _ mk i e4 h2 (fun j h' hj => hall j h' hj)], rfl⟩
    ·
      have k2 := bp h2
      refine AW.skip ?_
      refine AW.region ?_
      refine st (V.add64 (by omega)) ?_
      refine st V.move ?_
      refine sn ?_
      repeat with_reducible refine inb_normal ?_
      refine thn_normal ?_
      refine rnd (n - 1) _ (by omega) (List.Sublist.refl _) ⟨i + 1, by simp, rfl, by omega, fun j h hj => ?_⟩
      rcases Nat.lt_or_ge j i with hji | hji
      · exact hall j h hji
      · obtain rfl : j = i := by omega
        exact h2
  ·
    have k1 := bp h1
    refine AW.exit ?_
    repeat with_reducible refine thn_exit ?_
    refine inb_exit ?_
    refine AW.seq ?_
    refine AW.region ?_
    refine st V.assign ?_
    refine sn ?_
    refine AW.ret ?_
    repeat with_reducible first | refine thn_ret ?_ | refine inb_ret ?_
    refine fin (Res.i1 rfl) ?_
    exact ⟨_, (by repeat first | exact List.Sublist.refl _ | apply List.Sublist.cons), by rw [idxP_none _ mk (fun j h' => hall j h' (by omega))], rfl⟩
set_option maxHeartbeats 1600000 in
set_option synthInstance.maxHeartbeats 400000 in
set_option synthInstance.maxSize 100000 in
set_option maxRecDepth 100000 in
theorem conB_c (M : Mem) (H : Heap) (g c r n : Nat) (mk : List Bool) (hn : mk.length = n) (hr : H[r]? = some (.row (some ⟨g, 0, none⟩) n c 4 1 (mk.map .bool))) (t : Bool) (hb : mk.length ≤ 281474976710656) :
    AC Tryz.prog 119 [.slice (some ⟨g, 0, none⟩) n c, .bool t] M H fun v _ H' => v = .bool (mk.any fun x => t == x) ∧ H' = H := by
  refine AC.of (n := 7) Tryz.func119 rfl rfl ?_
  dsimp only [List.replicate, List.cons_append, List.nil_append]
  refine AW.seq ?_
  refine AW.region ?_
  refine st V.assign ?_
  refine sn ?_
  refine AW.seq ?_
  refine AW.region ?_
  refine st V.move ?_
  refine st V.move ?_
  refine se (S.call ?_)
  refine (idxB_c _ _ g c r n mk hn hr t hb).use ?_
  rintro v N G z ⟨rfl, hG⟩
  obtain rfl := hG.symm
  refine st V.geq ?_
  refine st V.assign ?_
  refine sn ?_
  refine AW.ret ?_
  repeat with_reducible first | refine thn_ret ?_ | refine inb_ret ?_
  refine fin (Res.i1 rfl) ?_
  exact ⟨_, (by repeat first | exact List.Sublist.refl _ | apply List.Sublist.cons), by rw [← idxP_any], rfl⟩
set_option maxHeartbeats 1600000 in
set_option synthInstance.maxHeartbeats 400000 in
set_option synthInstance.maxSize 100000 in
set_option maxRecDepth 100000 in
theorem twice_c (M : Mem) (H : Heap) (A : Option Addr) (c : Nat) (d : List DT) (hd : RdS 2 (RdD M) A c d) :
    AC Tryz.prog 92 [.slice A d.length c] M H fun v _ H' => v = .bool (tt (TwiceP d)) ∧ H' = H := by
  refine AC.of (n := 40) Tryz.func92 rfl rfl ?_
  dsimp only [List.replicate, List.cons_append, List.nil_append]
  refine AW.seq ?_
  refine AW.region ?_
  refine st V.assign ?_
  refine sn ?_
  refine AW.seq ?_
  refine AW.region ?_
  refine se (S.makeMap ?_); intro b9
  refine se (S.insert trivial ?_)
  refine st V.move ?_
  refine se (S.makeMap ?_); intro b11
  refine st V.assign ?_
  refine st V.assign ?_
  refine sn ?_
  refine AW.seq ?_
  refine AW.seq ?_
  refine AW.region ?_
  refine st V.move ?_
  refine st V.len ?_
  refine st V.move ?_
  refine sn ?_
  refine AW.block ?_
  refine AW.loopL [14] (2 :: 6 :: 8 :: 15 :: 16 :: 17 :: 18 :: 19 :: 20 :: 21 :: 22 :: 23 :: 24 :: 25 :: 26 :: 27 :: 28 :: 29 :: 30 :: 31 :: 32 :: 33 :: 34 :: 35 :: 36 :: 37 :: 38 :: 39 :: 40 :: []) (fun n vs M' H' => ∃ i : Nat, vs = [.int .i64 (i : Int)] ∧ H' = .mp b11 (Go.MapKept.IsKey .string) (setM (cnL (d.take i))) :: .mp b9 (Go.MapKept.IsKey .string) (setM (nmL (d.take i))) :: H ∧ i + n = d.length ∧ (nmL (d.take i)).Nodup ∧ (cnL (d.take i)).Nodup) (d.length) (⟨0, rfl, by rw [setM_nil, setM_push]; rfl, by omega, by simp [nmL], by simp [cnL]⟩) ?_
  intro n Ml Hl iL u14 hI u2 u6 u8 u15 u16 u17 u18 u19 u20 u21 u22 u23 u24 u25 u26 u27 u28 u29 u30 u31 u32 u33 u34 u35 u36 u37 u38 u39 u40
  obtain ⟨i, hv, rfl, hi, hn1, hn2⟩ := hI
  cases hv
  refine sa ?_
  refine AW.seq ?_
  refine AW.region ?_
  refine st V.lss ?_
  refine sn ?_
  refine AW.seq ?_
  refine cond (fun h1 => ?_) (fun h1 => ?_)
  ·
    have k1 := bp h1
    refine AW.skip ?_
    refine AW.seq ?_
    refine AW.block ?_
    refine AW.seq ?_
    have z4 : i < d.length := by omega
    have hbd := hd.bd
    obtain ⟨b8, o8, hA8, i0, ib0, A8, c8, i1, i2⟩ := (hd.upD (M' := Ml)).at i z4
    refine AW.region ?_
    refine st (V.ib i rfl z4 hA8) ?_
    first | refine st V.ldA ?_ | refine sq V.loA ?_
    refine se (S.alloc ?_); intro b6
    refine se (S.storeA rfl ?_)
    refine sn ?_
    refine AW.seq ?_
    refine AW.seq ?_
    refine AW.region ?_
    refine st V.move ?_
    refine st V.fa0 ?_
    first | refine st V.ld ?_ | refine sq V.lo ?_
    refine se (S.look trivial ?_)
    rw [setM_get]
    refine sn ?_
    refine cond (fun h2 => ?_) (fun h2 => ?_)
    ·
      have k2 := bp h2
      refine AW.seq ?_
      refine AW.region ?_
      refine st V.assign ?_
      refine sn ?_
      refine AW.ret ?_
      repeat with_reducible first | refine thn_ret ?_ | refine inb_ret ?_
      refine fin (Res.i1 rfl) ?_
      exact ⟨_, (by repeat first | exact List.Sublist.refl _ | apply List.Sublist.cons), tt_t (nm_dup d i z4 (tt_eq.1 h2)), rfl⟩
    ·
      have k2 := bp h2
      refine AW.skip ?_
      refine AW.seq ?_
      have z5 : d[i].name ∉ nmL (d.take i) := fun hm => by rw [tt_true hm] at h2; cases h2
      have hbd2 := i2.bd
      refine AW.region ?_
      refine st V.move ?_
      refine st V.fa0 ?_
      first | refine st V.ld ?_ | refine sq V.lo ?_
      refine se (S.mapUpdate trivial ?_)
      refine sn ?_
      refine AW.seq ?_
      refine AW.region ?_
      refine st V.faz ?_
      first | refine st V.ld ?_ | refine sq V.lo ?_
      refine st V.len ?_
      refine st V.move ?_
      refine sn ?_
      refine AW.block ?_
      refine AW.drop (H' := .mp b11 _ _ :: .mp b9 _ _ :: H) (by repeat first | exact List.Sublist.refl _ | apply List.Sublist.cons) ?_
      refine AW.loopL [28] (2 :: 8 :: 29 :: 30 :: 31 :: 32 :: 33 :: 34 :: 35 :: 36 :: 37 :: 38 :: 39 :: []) (fun n vs M' H' => ∃ j : Nat, vs = [.int .i64 (j : Int)] ∧ H' = .mp b11 (Go.MapKept.IsKey .string) (setM (cnL (d.take i) ++ (d[i].cons.take j).map (·.name))) :: .mp b9 (Go.MapKept.IsKey .string) (setM (nmL (d.take (i + 1)))) :: H ∧ j + n = d[i].cons.length ∧ (nmL (d.take (i + 1))).Nodup ∧ (cnL (d.take i) ++ (d[i].cons.take j).map (·.name)).Nodup) (d[i].cons.length) (⟨0, rfl, by rw [nmL_succ d i z4, ← setM_push]; simp, by omega, by rw [nmL_succ d i z4]; exact nodup_push hn1 z5, by simpa using hn2⟩) ?_
      intro n1 Ml1 Hl1 iL1 u28 hI1 u2 u8 u29 u30 u31 u32 u33 u34 u35 u36 u37 u38 u39
      obtain ⟨j, hv, rfl, hj, hm1, hm2⟩ := hI1
      cases hv
      refine sa ?_
      refine AW.seq ?_
      refine AW.region ?_
      refine st V.lss ?_
      refine sn ?_
      refine AW.seq ?_
      refine cond (fun h3 => ?_) (fun h3 => ?_)
      ·
        have k3 := bp h3
        refine AW.skip ?_
        refine AW.seq ?_
        refine AW.block ?_
        refine AW.seq ?_
        have z7 : j < d[i].cons.length := by omega
        obtain ⟨b7, o7, hA7, j0, jb0, A7, c7, j1, j2⟩ := (i2.upC (M' := Ml1)).at j z7
        refine AW.region ?_
        refine st (V.ib j rfl z7 hA7) ?_
        first | refine st V.ldA ?_ | refine sq V.loA ?_
        refine se (S.alloc ?_); intro b8
        refine se (S.storeA rfl ?_)
        refine sn ?_
        refine AW.seq ?_
        refine AW.seq ?_
        refine AW.region ?_
        refine st V.move ?_
        refine st V.fa0 ?_
        first | refine st V.ld ?_ | refine sq V.lo ?_
        refine se (S.look trivial ?_)
        rw [setM_get]
        refine sn ?_
        refine cond (fun h4 => ?_) (fun h4 => ?_)
        ·
          have k4 := bp h4
          refine AW.seq ?_
          refine AW.region ?_
          refine st V.assign ?_
          refine sn ?_
          refine AW.ret ?_
          repeat with_reducible first | refine thn_ret ?_ | refine inb_ret ?_
          refine fin (Res.i1 rfl) ?_
          exact ⟨_, (by repeat first | exact List.Sublist.refl _ | apply List.Sublist.cons), tt_t (cn_dup d i z4 j z7 (tt_eq.1 h4)), rfl⟩
        ·
          have k4 := bp h4
          refine AW.skip ?_
          have z8 : d[i].cons[j].name ∉ cnL (d.take i) ++ (d[i].cons.take j).map (·.name) := fun hm => by rw [tt_true hm] at h4; cases h4
          refine AW.region ?_
          refine st V.move ?_
          refine st V.fa0 ?_
          first | refine st V.ld ?_ | refine sq V.lo ?_
          refine se (S.mapUpdate trivial ?_)
          refine sn ?_
          refine AW.region ?_
          refine st (V.add64 (by omega)) ?_
          refine st V.move ?_
          refine sn ?_
          repeat with_reducible refine inb_normal ?_
          refine thn_normal ?_
          refine rnd (n1 - 1) (.mp b11 _ _ :: .mp b9 _ _ :: H) (by omega) (by repeat first | exact List.Sublist.refl _ | apply List.Sublist.cons) ⟨j + 1, by simp, by rw [take_succ _ _ z7, List.map_append, ← List.append_assoc, List.map_cons, List.map_nil, ← setM_push], by omega, hm1, by rw [take_succ _ _ z7, List.map_append, ← List.append_assoc]; exact nodup_push hm2 z8⟩
      ·
        have k3 := bp h3
        refine AW.exit ?_
        repeat with_reducible refine thn_exit ?_
        refine inb_exit ?_
        refine AW.region ?_
        refine st (V.add64 (by omega)) ?_
        refine st V.move ?_
        refine sn ?_
        repeat with_reducible refine inb_normal ?_
        refine thn_normal ?_
        have z6 : (d[i].cons.take j) = d[i].cons := List.take_of_length_le (by omega)
        rw [z6] at hm2
        rw [z6]
        refine rnd (n - 1) _ (by omega) (List.Sublist.refl _) ⟨i + 1, by simp, by rw [cnL_succ d i z4], by omega, hm1, by rw [cnL_succ d i z4]; exact hm2⟩
  ·
    have k1 := bp h1
    refine AW.exit ?_
    repeat with_reducible refine thn_exit ?_
    refine inb_exit ?_
    refine AW.seq ?_
    refine AW.region ?_
    refine st V.assign ?_
    refine sn ?_
    refine AW.ret ?_
    repeat with_reducible first | refine thn_ret ?_ | refine inb_ret ?_
    refine fin (Res.i1 rfl) ?_
    exact ⟨_, (by repeat first | exact List.Sublist.refl _ | apply List.Sublist.cons), tt_f (fun ht => ht (by rw [List.take_of_length_le (by omega)] at hn1 hn2; exact ⟨hn1, hn2⟩)), rfl⟩
set_option maxHeartbeats 1600000 in
set_option synthInstance.maxHeartbeats 400000 in
set_option synthInstance.maxSize 100000 in
set_option maxRecDepth 100000 in
theorem fin2_c (M : Mem) (H : Heap) (b g c n : Nat) (mk : List Bool) (hn : mk.length = n) (t : Int) (h0 : 0 ≤ t) (h1 : t < mk.length) (hb : mk.length ≤ 281474976710656) :
    AC Tryz.prog 118 [.int .i64 t, .pointer (some ⟨b, 0, none⟩)] M (.blk b (.cells #[.slice (some ⟨g, 0, none⟩) n c] 141 (0, 0)) :: .row (some ⟨g, 0, none⟩) n c 4 1 (mk.map .bool) :: H) fun v _ H' => v = .bool (!mk.getD t.toNat false) ∧ H' = .blk b (.cells #[.slice (some ⟨g, 0, none⟩) n c] 141 (0, 0)) :: .row (some ⟨g, 0, none⟩) n c 4 1 (mk.map .bool) :: H := by
  obtain ⟨i, rfl⟩ : ∃ i : Nat, t = (i : Int) := ⟨t.toNat, by omega⟩
  have z1 : i < mk.length := by omega
  subst hn
  refine AC.of (n := 7) Tryz.func118 rfl rfl ?_
  dsimp only [List.replicate, List.cons_append, List.nil_append]
  refine AW.seq ?_
  refine AW.region ?_
  refine st V.assign ?_
  refine sn ?_
  refine AW.seq ?_
  refine AW.region ?_
  first | refine st V.ld ?_ | refine sq V.lo ?_
  refine st V.move ?_
  refine st (V.ib i rfl z1 rfl) ?_
  refine sq (V.lr (v := .bool mk[i]) 1 rfl (by simp [z1])) ?_
  refine st V.not ?_
  refine st V.assign ?_
  refine sn ?_
  refine AW.ret ?_
  repeat with_reducible first | refine thn_ret ?_ | refine inb_ret ?_
  refine fin (Res.i1 rfl) ?_
  exact ⟨_, (by repeat first | exact List.Sublist.refl _ | apply List.Sublist.cons), by simp [List.getD, z1], rfl⟩
set_option maxHeartbeats 1600000 in
set_option synthInstance.maxHeartbeats 400000 in
set_option synthInstance.maxSize 100000 in
set_option maxRecDepth 100000 in
theorem fin1_c (M : Mem) (H : Heap) (b g c n : Nat) (mk : List Bool) (hn : mk.length = n) (hb : mk.length ≤ 281474976710656) (x : CT) (hx : ∀ f ∈ x.fields, 0 ≤ f ∧ f < mk.length) (A : Option Addr) (k : Nat) (hA : RdS 1 (RdI M) A k x.fields) :
    AC Tryz.prog 117 [.agg #[.string x.name, .slice A x.fields.length k], .pointer (some ⟨b, 0, none⟩)] M (.blk b (.cells #[.slice (some ⟨g, 0, none⟩) n c] 141 (0, 0)) :: .row (some ⟨g, 0, none⟩) n c 4 1 (mk.map .bool) :: H) fun v _ H' => v = .bool (fOk mk x) ∧ H' = .blk b (.cells #[.slice (some ⟨g, 0, none⟩) n c] 141 (0, 0)) :: .row (some ⟨g, 0, none⟩) n c 4 1 (mk.map .bool) :: H := by
  refine AC.of (n := 7) Tryz.func117 rfl rfl ?_
  dsimp only [List.replicate, List.cons_append, List.nil_append]
  refine AW.seq ?_
  refine AW.region ?_
  refine se (S.boxM ?_); intro b2 M2 i2 j2
  refine st V.assign ?_
  refine sn ?_
  refine AW.seq ?_
  refine AW.region ?_
  refine st V.faz ?_
  first | refine st V.ld ?_ | refine sq V.lo ?_
  refine st V.fn ?_
  refine se (S.call (fst := []) (cap := []) ?_)
  refine (conT_c 118 [.pointer (some ⟨b, 0, none⟩)] (fun t => !mk.getD t.toNat false) _ _ A k x.fields hA.upI (fun M' _ t ht => fin2_c M' _ b g c n mk hn t (hx t ht).1 (hx t ht).2 hb)).use ?_
  rintro v N G z ⟨rfl, hG⟩
  obtain rfl := hG.symm
  refine st V.not ?_
  refine st V.assign ?_
  refine sn ?_
  refine AW.ret ?_
  repeat with_reducible first | refine thn_ret ?_ | refine inb_ret ?_
  refine fin (Res.i1 rfl) ?_
  exact ⟨_, (by repeat first | exact List.Sublist.refl _ | apply List.Sublist.cons), rfl, rfl⟩
end Go.Proofs.YtieaiheejhmbfaaGreatDoor.ML
/- Walks of functions of the program, in the abstract layer. No conditions. -/
namespace Go.Proofs.YtieaiheejhmbfaaGreatDoor.ML
open Go.RowKit
set_option linter.unusedVariables false
set_option linter.unusedSimpArgs false
set_option maxHeartbeats 1600000 in
set_option synthInstance.maxHeartbeats 400000 in
set_option synthInstance.maxSize 100000 in
set_option maxRecDepth 100000 in
theorem finite_c (M : Mem) (H : Heap) (A : Option Addr) (c : Nat) (d : List DT) (hd : RdS 2 (RdD M) A c d) (hT : TypedP d) :
    AC Tryz.prog 96 [.slice A d.length c] M H fun v _ H' => v = .bool (tt (FinP d)) ∧ H' = H := by
  refine AC.of (n := 42) Tryz.func96 rfl rfl ?_
  dsimp only [List.replicate, List.cons_append, List.nil_append]
  refine AW.seq ?_
  refine AW.region ?_
  refine st V.assign ?_
  refine sn ?_
  refine AW.seq ?_
  have hbd := hd.bd
  refine AW.region ?_
  refine st V.move ?_
  refine st V.len ?_
  refine st (V.add64 (by omega)) ?_
  refine se (S.make (k := .i64) (k' := .i64) (n := d.length + 1) (by omega) (by omega) ?_)
  intro g10
  refine se (S.alloc ?_); intro b3
  refine se (S.store ?_)
  refine sn ?_
  refine AW.seq ?_
  refine AW.region ?_
  first | refine st V.ld ?_ | refine sq V.lo ?_
  refine st (V.ib 0 rfl (by omega) rfl) ?_
  refine se (S.storeR 1 rfl (by simp [madeCells]) ?_)
  refine sn ?_
  refine AW.seq ?_
  refine AW.seq ?_
  refine AW.region ?_
  refine st V.assign ?_
  refine sn ?_
  refine AW.block ?_
  refine AW.loopL [4] (5 :: 6 :: 13 :: 14 :: 15 :: 16 :: 17 :: 18 :: 19 :: 20 :: 21 :: 22 :: 23 :: 24 :: 25 :: 26 :: 27 :: 28 :: 29 :: 30 :: 31 :: 32 :: 33 :: 34 :: 35 :: 36 :: 37 :: 38 :: 39 :: []) (fun n vs M' H' => ∃ (more : Bool) (mk : List Bool), vs = [.bool more] ∧ H' = .blk b3 (.cells #[.slice (some ⟨g10, 0, none⟩) (d.length + 1) (d.length + 1)] 141 (0, 0)) :: .row (some ⟨g10, 0, none⟩) (d.length + 1) (d.length + 1) 4 1 (mk.map .bool) :: H ∧ Sound d mk ∧ (more = false → Closed d mk) ∧ n = 2 * cf mk + if more then 1 else 0) (2 * cf ((List.replicate (d.length + 1) false).set 0 true) + 1) (⟨true, _, rfl, by simp [madeCells_bool], Sound.init d, by simp, rfl⟩) ?_
  intro n Ml Hl iL u4 hI u5 u6 u13 u14 u15 u16 u17 u18 u19 u20 u21 u22 u23 u24 u25 u26 u27 u28 u29 u30 u31 u32 u33 u34 u35 u36 u37 u38 u39
  obtain ⟨more, mk, hv, rfl, hs, hcl, hn⟩ := hI
  cases hv
  refine sa ?_
  refine AW.seq ?_
  refine AW.seq ?_
  refine AW.region ?_
  refine st V.move ?_
  refine sn ?_
  refine cond (fun h1 => ?_) (fun h1 => ?_)
  ·
    have k1 := bp h1
    refine AW.skip ?_
    refine AW.block ?_
    refine AW.seq ?_
    refine AW.region ?_
    refine st V.assign ?_
    refine sn ?_
    refine AW.seq ?_
    refine AW.region ?_
    refine st V.move ?_
    refine st V.len ?_
    refine st V.move ?_
    refine sn ?_
    refine AW.block ?_
    refine AW.loopL [4, 16] (5 :: 6 :: 17 :: 18 :: 19 :: 20 :: 21 :: 22 :: 23 :: 24 :: 25 :: 26 :: 27 :: 28 :: 29 :: 30 :: 31 :: 32 :: 33 :: 34 :: 35 :: 36 :: 37 :: 38 :: 39 :: []) (fun n vs M' H' => ∃ (more1 : Bool) (i : Nat) (mk1 : List Bool), vs = [.bool more1, .int .i64 (i : Int)] ∧ H' = .blk b3 (.cells #[.slice (some ⟨g10, 0, none⟩) (d.length + 1) (d.length + 1)] 141 (0, 0)) :: .row (some ⟨g10, 0, none⟩) (d.length + 1) (d.length + 1) 4 1 (mk1.map .bool) :: H ∧ i + n = d.length ∧ Sound d mk1 ∧ (more1 = false → mk1 = mk ∧ ∀ k (h : k < d.length), k < i → rdy mk d[k] = true → mk1.getD (k + 1) false = true) ∧ (more1 = true → cf mk1 < cf mk)) (d.length) (⟨false, 0, mk, rfl, rfl, by omega, hs, fun _ => ⟨rfl, fun k _ h => by omega⟩, fun h => by cases h⟩) ?_
    intro n1 Ml1 Hl1 iL1 u4 u16 hI1 u5 u6 u17 u18 u19 u20 u21 u22 u23 u24 u25 u26 u27 u28 u29 u30 u31 u32 u33 u34 u35 u36 u37 u38 u39
    obtain ⟨more1, i, mk1, hv, rfl, hi, hs1, hm1, hm2⟩ := hI1
    cases hv
    refine sa ?_
    refine AW.seq ?_
    refine AW.region ?_
    refine st V.lss ?_
    refine sn ?_
    refine AW.seq ?_
    refine cond (fun h2 => ?_) (fun h2 => ?_)
    ·
      have k2 := bp h2
      refine AW.skip ?_
      refine AW.seq ?_
      refine AW.block ?_
      refine AW.seq ?_
      have z4 : i < d.length := by omega
      have hl1 := hs1.1
      obtain ⟨b8, o8, hA8, i0, ib0, A8, c8, i1, i2⟩ := (hd.upD (M' := Ml1)).at i z4
      refine AW.region ?_
      refine st V.move ?_
      refine st V.assign ?_
      refine sn ?_
      refine AW.seq ?_
      refine AW.region ?_
      refine st V.move ?_
      refine st V.move ?_
      refine st (V.ib i rfl z4 hA8) ?_
      refine st V.fa ?_
      first | refine st V.ld ?_ | refine sq V.lo ?_
      refine st V.fn ?_
      refine se (S.call (fst := []) (cap := []) ?_)
      refine (conC_c 117 [.pointer (some ⟨b3, 0, none⟩)] (fOk mk1) _ _ A8 c8 _ i2.upC (fun M' _ x B k hx hB _ => fin1_c M' H b3 g10 _ _ mk1 hl1 (by omega) x (fun f hf => by obtain ⟨j, hj, rfl⟩ := List.getElem_of_mem hx; have := hT i z4 j hj f hf; omega) B k hB)).use ?_
      rintro v N G z ⟨rfl, hG⟩
      obtain rfl := hG.symm
      refine st V.assign ?_
      refine sn ?_
      refine AW.seq ?_
      refine AW.region ?_
      refine st V.move ?_
      refine st V.move ?_
      refine onoff false rfl rfl (fun h3 => ?_) (fun h3 => ?_)
      ·
        have k3 := bp h3
        first | refine st V.ld ?_ | refine sq V.lo ?_
        refine on rfl h3 ?_
        refine st V.move ?_
        refine on rfl h3 ?_
        refine st (V.add64 (by omega)) ?_
        refine on rfl h3 ?_
        refine st (V.ib (i + 1) (by omega) (by omega) rfl) ?_
        refine on rfl h3 ?_
        refine sq (V.lr (v := .bool (mk1.getD (i + 1) false)) 1 rfl (by simp [List.getD, show i + 1 < mk1.length by omega])) ?_
        refine on rfl h3 ?_
        refine st V.not ?_
        refine st (V.pT h3) ?_
        refine sn ?_
        refine cond (fun h4 => ?_) (fun h4 => ?_)
        ·
          have k4 := bp h4
          refine AW.region ?_
          first | refine st V.ld ?_ | refine sq V.lo ?_
          refine st V.move ?_
          refine st (V.add64 (by omega)) ?_
          refine st (V.ib (i + 1) (by omega) (by omega) rfl) ?_
          refine se (S.storeR 1 rfl (by simp; omega) ?_)
          refine st V.assign ?_
          refine sn ?_
          refine AW.region ?_
          refine st (V.add64 (by omega)) ?_
          refine st V.move ?_
          refine sn ?_
          repeat with_reducible refine inb_normal ?_
          refine thn_normal ?_
          have hr2 : rdy mk1 d[i] = true := h3
          have hlt := cf_set (mk := mk1) (k := i + 1) (by omega) k4
          refine rnd (n1 - 1) _ (by omega) (List.Sublist.refl _) ⟨true, i + 1, mk1.set (i + 1) true, by simp, by simp [List.map_set], by omega, hs1.set hT z4 hr2, (fun e => by cases e), fun _ => ?_⟩
          cases more1 with
          | true => have := hm2 rfl; omega
          | false => have e := (hm1 rfl).1; subst e; exact hlt
        ·
          have k4 := bp h4
          refine AW.skip ?_
          refine AW.region ?_
          refine st (V.add64 (by omega)) ?_
          refine st V.move ?_
          refine sn ?_
          repeat with_reducible refine inb_normal ?_
          refine thn_normal ?_
          refine rnd (n1 - 1) _ (by omega) (List.Sublist.refl _) ⟨more1, i + 1, mk1, by simp, rfl, by omega, hs1, fun e => ⟨(hm1 e).1, fun k hk hki hr => ?_⟩, hm2⟩
          rcases Nat.lt_or_ge k i with h | h
          · exact (hm1 e).2 k hk h hr
          · obtain rfl : k = i := by omega
            exact k4
      ·
        have k3 := bp h3
        refine off rfl h3 ?_
        refine off rfl h3 ?_
        refine off rfl h3 ?_
        refine off rfl h3 ?_
        refine off rfl h3 ?_
        refine st (V.pF h3) ?_
        refine sn ?_
        refine cond (fun h => by cases h) (fun _ => ?_)
        refine AW.skip ?_
        refine AW.region ?_
        refine st (V.add64 (by omega)) ?_
        refine st V.move ?_
        refine sn ?_
        repeat with_reducible refine inb_normal ?_
        refine thn_normal ?_
        refine rnd (n1 - 1) _ (by omega) (List.Sublist.refl _) ⟨more1, i + 1, mk1, by simp, rfl, by omega, hs1, fun e => ⟨(hm1 e).1, fun k hk hki hr => ?_⟩, hm2⟩
        rcases Nat.lt_or_ge k i with h | h
        · exact (hm1 e).2 k hk h hr
        · obtain rfl : k = i := by omega
          rw [← (hm1 e).1] at hr
          exact absurd (hr.symm.trans h3) (by decide)
    ·
      have k2 := bp h2
      refine AW.exit ?_
      repeat with_reducible refine thn_exit ?_
      refine inb_exit ?_
      repeat with_reducible refine inb_normal ?_
      refine thn_normal ?_
      refine rnd (2 * cf mk1 + if more1 then 1 else 0) _ ?_ (by repeat first | exact List.Sublist.refl _ | apply List.Sublist.cons) ⟨more1, mk1, rfl, rfl, hs1, ?_, rfl⟩
      · subst hn; rw [if_pos h1]; cases more1 with | true => (have := hm2 rfl; simp; omega) | false => (have := hm1 rfl; rw [this.1]; simp)
      · intro e; have := hm1 e; rw [← this.1] at this; exact fun i hi hr => (hm1 e).2 i hi (by omega) (by rw [(hm1 e).1] at hr; exact hr)
  ·
    have k1 := bp h1
    refine AW.exit ?_
    repeat with_reducible refine thn_exit ?_
    refine inb_exit ?_
    refine AW.seq ?_
    refine AW.region ?_
    first | refine st V.ld ?_ | refine sq V.lo ?_
    refine se (S.call ?_)
    refine (conB_c _ _ g10 _ 1 _ mk hs.1 rfl false (by rw [hs.1]; omega)).use ?_
    rintro v N G z ⟨rfl, hG⟩
    obtain rfl := hG.symm
    refine st V.not ?_
    refine st V.assign ?_
    refine sn ?_
    refine AW.ret ?_
    repeat with_reducible first | refine thn_ret ?_ | refine inb_ret ?_
    refine fin (Res.i1 rfl) ?_
    refine ⟨_, (by repeat first | exact List.Sublist.refl _ | apply List.Sublist.cons), ?_, rfl⟩
    exact tt_of (fin_marks hs (hcl h1))
set_option maxHeartbeats 1600000 in
set_option synthInstance.maxHeartbeats 400000 in
set_option synthInstance.maxSize 100000 in
set_option maxRecDepth 100000 in
theorem check_c (M : Mem) (H : Heap) (A : Option Addr) (c : Nat) (d : List DT) (hd : RdS 2 (RdD M) A c d) :
    AC Tryz.prog 67 [.slice A d.length c] M H fun v _ H' => v = .int .i64 (checkF d) ∧ H' = H := by
  refine AC.of (n := 35) Tryz.func67 rfl rfl ?_
  dsimp only [List.replicate, List.cons_append, List.nil_append]
  refine AW.seq ?_
  refine AW.region ?_
  refine se (S.boxM ?_); intro b1 M1 i1 j1
  refine st V.assign ?_
  refine sn ?_
  refine AW.seq ?_
  refine AW.seq ?_
  refine AW.region ?_
  first | refine st V.ld ?_ | refine sq V.lo ?_
  refine se (S.call ?_)
  refine (many_c _ _ A c d hd.upD).use ?_
  rintro v N G z ⟨rfl, hG⟩
  obtain rfl := hG.symm
  refine sn ?_
  refine cond (fun h1 => ?_) (fun h1 => ?_)
  ·
    have k1 := bp h1
    refine AW.seq ?_
    refine AW.region ?_
    refine st V.assign ?_
    refine sn ?_
    refine AW.ret ?_
    repeat with_reducible first | refine thn_ret ?_ | refine inb_ret ?_
    refine fin (Res.i1 rfl) ?_
    exact ⟨_, (by repeat first | exact List.Sublist.refl _ | apply List.Sublist.cons), by rw [checkF, if_pos h1], rfl⟩
  ·
    have k1 := bp h1
    refine AW.skip ?_
    refine AW.seq ?_
    refine AW.seq ?_
    refine AW.region ?_
    first | refine st V.ld ?_ | refine sq V.lo ?_
    refine se (S.call ?_)
    refine (formed_c _ _ A c d hd.upD).use ?_
    rintro v N G z ⟨rfl, hG⟩
    obtain rfl := hG.symm
    refine st V.not ?_
    refine sn ?_
    refine cond (fun h2 => ?_) (fun h2 => ?_)
    ·
      have k2 := bp h2
      refine AW.seq ?_
      refine AW.region ?_
      refine st V.assign ?_
      refine sn ?_
      refine AW.ret ?_
      repeat with_reducible first | refine thn_ret ?_ | refine inb_ret ?_
      refine fin (Res.i1 rfl) ?_
      exact ⟨_, (by repeat first | exact List.Sublist.refl _ | apply List.Sublist.cons), by rw [checkF, if_neg (by simp [h1]), if_neg (by simp [k2])], rfl⟩
    ·
      have k2 := bp h2
      refine AW.skip ?_
      refine AW.seq ?_
      refine AW.seq ?_
      refine AW.region ?_
      first | refine st V.ld ?_ | refine sq V.lo ?_
      refine se (S.call ?_)
      refine (twice_c _ _ A c d hd.upD).use ?_
      rintro v N G z ⟨rfl, hG⟩
      obtain rfl := hG.symm
      refine sn ?_
      refine cond (fun h3 => ?_) (fun h3 => ?_)
      ·
        have k3 := bp h3
        refine AW.seq ?_
        refine AW.region ?_
        refine st V.assign ?_
        refine sn ?_
        refine AW.ret ?_
        repeat with_reducible first | refine thn_ret ?_ | refine inb_ret ?_
        refine fin (Res.i1 rfl) ?_
        exact ⟨_, (by repeat first | exact List.Sublist.refl _ | apply List.Sublist.cons), by rw [checkF, if_neg (by simp [h1]), if_pos k2, if_pos h3], rfl⟩
      ·
        have k3 := bp h3
        refine AW.skip ?_
        refine AW.seq ?_
        refine AW.seq ?_
        refine AW.region ?_
        first | refine st V.ld ?_ | refine sq V.lo ?_
        refine st V.len ?_
        refine st V.move ?_
        refine sn ?_
        refine AW.block ?_
        refine AW.loopL [16] (2 :: 4 :: 6 :: 17 :: 18 :: 19 :: 20 :: 21 :: 22 :: 23 :: 24 :: 25 :: 26 :: 27 :: 28 :: 29 :: 30 :: 31 :: 32 :: []) (fun n vs M' H' => ∃ i : Nat, vs = [.int .i64 (i : Int)] ∧ H' = H ∧ i + n = d.length ∧ (∀ k (h : k < d.length), k < i → ∀ j (h' : j < d[k].cons.length), ∀ f ∈ d[k].cons[j].fields, 0 ≤ f ∧ f ≤ d.length)) (d.length) (⟨0, rfl, rfl, by omega, fun k _ h => by omega⟩) ?_
        intro n Ml Hl iL u16 hI u2 u4 u6 u17 u18 u19 u20 u21 u22 u23 u24 u25 u26 u27 u28 u29 u30 u31 u32
        obtain ⟨i, hv, rfl, hi, hall⟩ := hI
        cases hv
        refine sa ?_
        refine AW.seq ?_
        refine AW.region ?_
        refine st V.lss ?_
        refine sn ?_
        refine AW.seq ?_
        refine cond (fun h4 => ?_) (fun h4 => ?_)
        ·
          have k4 := bp h4
          refine AW.skip ?_
          refine AW.seq ?_
          refine AW.block ?_
          refine AW.seq ?_
          have z4 : i < d.length := by omega
          have hbd := hd.bd
          obtain ⟨b8, o8, hA8, i0, ib0, A8, c8, i1, i2⟩ := (hd.upD (M' := Ml)).at i z4
          have hbd2 := i2.bd
          refine AW.region ?_
          refine st (V.ib i rfl z4 hA8) ?_
          first | refine st V.ldA ?_ | refine sq V.loA ?_
          refine se (S.alloc ?_); intro b4
          refine se (S.storeA rfl ?_)
          refine sn ?_
          refine AW.seq ?_
          refine AW.region ?_
          refine st V.faz ?_
          first | refine st V.ld ?_ | refine sq V.lo ?_
          refine st V.len ?_
          refine st V.move ?_
          refine sn ?_
          refine AW.block ?_
          refine AW.drop (H' := Hl) (by repeat first | exact List.Sublist.refl _ | apply List.Sublist.cons) ?_
          refine AW.loopL [23] (2 :: 6 :: 24 :: 25 :: 26 :: 27 :: 28 :: 29 :: 30 :: 31 :: []) (fun n vs M' H' => ∃ j : Nat, vs = [.int .i64 (j : Int)] ∧ H' = Hl ∧ j + n = d[i].cons.length ∧ (∀ k (h : k < d[i].cons.length), k < j → ∀ f ∈ d[i].cons[k].fields, 0 ≤ f ∧ f ≤ d.length)) (d[i].cons.length) (⟨0, rfl, rfl, by omega, fun k _ h => by omega⟩) ?_
          intro n1 Ml1 Hl1 iL1 u23 hI1 u2 u6 u24 u25 u26 u27 u28 u29 u30 u31
          obtain ⟨j, hv, rfl, hj, hall1⟩ := hI1
          cases hv
          refine sa ?_
          refine AW.seq ?_
          refine AW.region ?_
          refine st V.lss ?_
          refine sn ?_
          refine AW.seq ?_
          refine cond (fun h5 => ?_) (fun h5 => ?_)
          ·
            have k5 := bp h5
            refine AW.skip ?_
            refine AW.seq ?_
            refine AW.block ?_
            refine AW.seq ?_
            have z7 : j < d[i].cons.length := by omega
            obtain ⟨b7, o7, hA7, j0, jb0, A7, c7, q1, q2⟩ := (i2.upC (M' := Ml1)).at j z7
            refine AW.region ?_
            refine st (V.ib j rfl z7 hA7) ?_
            first | refine st V.ldA ?_ | refine sq V.loA ?_
            refine se (S.alloc ?_); intro b6
            refine se (S.storeA rfl ?_)
            refine sn ?_
            refine AW.seq ?_
            refine AW.region ?_
            refine st V.faz ?_
            first | refine st V.ld ?_ | refine sq V.lo ?_
            refine st V.fn ?_
            refine se (S.call (fst := []) (cap := []) ?_)
            refine (conT_c 94 [.pointer (some ⟨b1, 0, none⟩)] (fun t => !decide (0 ≤ t ∧ t ≤ d.length)) _ _ A7 c7 _ q2.upI (fun M' _ t ht => check1_c M' _ b1 A c d.length (Mb.up (M := Ml1) inferInstance) t)).use ?_
            rintro v N G z ⟨rfl, hG⟩
            obtain rfl := hG.symm
            refine sn ?_
            refine cond (fun h6 => ?_) (fun h6 => ?_)
            ·
              have k6 := bp h6
              refine AW.seq ?_
              refine AW.region ?_
              refine st V.assign ?_
              refine sn ?_
              refine AW.ret ?_
              repeat with_reducible first | refine thn_ret ?_ | refine inb_ret ?_
              refine fin (Res.i1 rfl) ?_
              have hnt : ¬ TypedP d := fun hT => by
                rw [List.any_eq_true] at h6
                obtain ⟨f, hf, hp⟩ := h6
                have := hT i z4 j z7 f hf
                simp at hp; omega
              exact ⟨_, (by repeat first | exact List.Sublist.refl _ | apply List.Sublist.cons), by rw [checkF, if_neg (by simp [h1]), if_pos k2, if_neg (by simp [h3]), if_neg (by simp [tt_false hnt])], rfl⟩
            ·
              have k6 := bp h6
              refine AW.skip ?_
              refine AW.region ?_
              refine st (V.add64 (by omega)) ?_
              refine st V.move ?_
              refine sn ?_
              repeat with_reducible refine inb_normal ?_
              refine thn_normal ?_
              refine rnd (n1 - 1) _ (by omega) (by repeat first | exact List.Sublist.refl _ | apply List.Sublist.cons) ⟨j + 1, by simp, rfl, by omega, fun k hk hkj f hf => ?_⟩
              rcases Nat.lt_or_ge k j with h | h
              · exact hall1 k hk h f hf
              · obtain rfl : k = j := by omega
                rw [List.any_eq_false] at h6; simpa using h6 f hf
          ·
            have k5 := bp h5
            refine AW.exit ?_
            repeat with_reducible refine thn_exit ?_
            refine inb_exit ?_
            refine AW.region ?_
            refine st (V.add64 (by omega)) ?_
            refine st V.move ?_
            refine sn ?_
            repeat with_reducible refine inb_normal ?_
            refine thn_normal ?_
            refine rnd (n - 1) _ (by omega) (List.Sublist.refl _) ⟨i + 1, by simp, rfl, by omega, fun k hk hki j' hj' f hf => ?_⟩
            rcases Nat.lt_or_ge k i with h | h
            · exact hall k hk h j' hj' f hf
            · obtain rfl : k = i := by omega
              exact hall1 j' hj' (by omega) f hf
        ·
          have k4 := bp h4
          refine AW.exit ?_
          repeat with_reducible refine thn_exit ?_
          refine inb_exit ?_
          refine AW.seq ?_
          refine AW.seq ?_
          have hT : TypedP d := fun i h j h' f hf => hall i h (by omega) j h' f hf
          refine AW.region ?_
          first | refine st V.ld ?_ | refine sq V.lo ?_
          refine se (S.call ?_)
          refine (finite_c _ _ A c d hd.upD hT).use ?_
          rintro v N G z ⟨rfl, hG⟩
          obtain rfl := hG.symm
          refine st V.not ?_
          refine sn ?_
          refine cond (fun h7 => ?_) (fun h7 => ?_)
          ·
            have k7 := bp h7
            refine AW.seq ?_
            refine AW.region ?_
            refine st V.assign ?_
            refine sn ?_
            refine AW.ret ?_
            repeat with_reducible first | refine thn_ret ?_ | refine inb_ret ?_
            refine fin (Res.i1 rfl) ?_
            exact ⟨_, (by repeat first | exact List.Sublist.refl _ | apply List.Sublist.cons), by rw [checkF, if_neg (by simp [h1]), if_pos k2, if_neg (by simp [h3]), if_pos (tt_true hT), if_neg (by simp [k7])], rfl⟩
          ·
            have k7 := bp h7
            refine AW.skip ?_
            refine AW.seq ?_
            refine AW.region ?_
            refine st V.assign ?_
            refine sn ?_
            refine AW.ret ?_
            repeat with_reducible first | refine thn_ret ?_ | refine inb_ret ?_
            refine fin (Res.i1 rfl) ?_
            exact ⟨_, (by repeat first | exact List.Sublist.refl _ | apply List.Sublist.cons), by rw [checkF, if_neg (by simp [h1]), if_pos k2, if_neg (by simp [h3]), if_pos (tt_true hT), if_pos k7], rfl⟩
end Go.Proofs.YtieaiheejhmbfaaGreatDoor.ML
/- Walks of functions of the program, in the abstract layer. No conditions. -/
namespace Go.Proofs.YtieaiheejhmbfaaGreatDoor.ML
open Go.RowKit
set_option linter.unusedVariables false
set_option linter.unusedSimpArgs false
set_option maxHeartbeats 1600000 in
set_option synthInstance.maxHeartbeats 400000 in
set_option synthInstance.maxSize 100000 in
set_option maxRecDepth 100000 in
theorem visit_c (d : List DT) (hd8 : d.length ≤ 1000000) : ∀ (s : Nat) (t : Int) (l : List Int), OkL d l → d.length + 1 < s + l.length → ∀ (M : Mem) (H : Heap) (b bm bd bo bv : Nat) (Ad : Option Addr) (cd : Nat) (A : Option Addr) (c : Nat) (m : Value → Option Value),
    Mb M bm [.map (some b)] → Mb M bd [.slice Ad d.length cd] → Mb M bv [.func (.func 106) #[] #[.pointer (some ⟨bm, 0, none⟩), .pointer (some ⟨bd, 0, none⟩), .pointer (some ⟨bo, 0, none⟩), .pointer (some ⟨bv, 0, none⟩)]] → RdS 2 (RdD M) Ad cd d → MemM m l →
    AC Tryz.prog 106 [.int .i64 t, .pointer (some ⟨bm, 0, none⟩), .pointer (some ⟨bd, 0, none⟩), .pointer (some ⟨bo, 0, none⟩), .pointer (some ⟨bv, 0, none⟩)] M (.blk bo (.cells #[.slice A (l).length c] 57 (0, 0)) :: .row A (l).length c 23 1 ((l).map (.int .i64)) :: .mp b (Go.MapKept.IsKey (.int .i64)) m :: H) fun v _ H' => v = .tuple #[] ∧ ∃ A' c' m', MemM m' (visF d s t l) ∧ H' = .blk bo (.cells #[.slice A' (visF d s t l).length c'] 57 (0, 0)) :: .row A' (visF d s t l).length c' 23 1 ((visF d s t l).map (.int .i64)) :: .mp b (Go.MapKept.IsKey (.int .i64)) m' :: H
  | 0, t, l, hok, hs => by have := hok.len; omega
  | s + 1, t, l, hok, hs => by
    intro M H b bm bd bo bv Ad cd A c m h1 h2 h3 hd hm
    have hlen := hok.len
    have hbd := hd.bd
    refine AC.of (n := 48) Tryz.func106 rfl rfl ?_
    dsimp only [List.replicate, List.cons_append, List.nil_append]
    refine AW.seq ?_
    refine AW.seq ?_
    refine AW.region ?_
    first | refine st V.ld ?_ | refine sq V.lo ?_
    refine st V.move ?_
    refine se (S.look2 (by first | trivial | rfl) ?_)
    refine st V.move ?_
    refine st V.ext ?_
    refine st V.ext ?_
    refine st V.assign ?_
    refine st V.assign ?_
    refine sn ?_
    refine AW.seq ?_
    refine AW.region ?_
    refine st V.move ?_
    refine st V.move ?_
    refine onoff true rfl rfl (fun h1 => ?_) (fun h1 => ?_)
    ·
      have k1 := bp h1
      first | refine st V.ld ?_ | refine sq V.lo ?_
      refine on rfl h1 ?_
      refine st V.move ?_
      refine on rfl h1 ?_
      refine se (S.call ?_)
      refine (exists_c _ _ Ad cd d.length t).use ?_
      rintro v N G iz ⟨rfl, hG⟩
      obtain rfl := hG.symm
      refine on rfl h1 ?_
      refine st V.not ?_
      refine st (V.pF h1) ?_
      refine sn ?_
      refine cond (fun h2 => ?_) (fun h2 => ?_)
      ·
        have k2 := bp h2
        refine AW.ret ?_
        repeat with_reducible first | refine thn_ret ?_ | refine inb_ret ?_
        refine fin (Res.zero rfl) ?_
        refine ⟨_, List.Sublist.refl _, rfl, A, c, m, by rw [visF_out k2]; exact hm, by rw [visF_out k2]⟩
      ·
        have k2 := bp h2
        refine AW.skip ?_
        refine AW.seq ?_
        have hnin : t ∉ l := fun h => by rw [(hm t).2 h] at h1; cases h1
        have hok2 : OkL d (l ++ [t]) := ⟨nodup_push hok.1 hnin, fun x hx => by rcases List.mem_append.1 hx with hx | hx; exact hok.2 x hx; simp at hx; subst hx; exact k2⟩
        have hlen2 := hok2.len
        simp at hlen2
        refine AW.region ?_
        first | refine st V.ld ?_ | refine sq V.lo ?_
        refine st V.move ?_
        first | refine st V.ld ?_ | refine sq V.lo ?_
        refine st V.len ?_
        refine se (S.mapUpdate (by first | trivial | rfl) ?_)
        refine sn ?_
        refine AW.seq ?_
        refine AW.region ?_
        first | refine st V.ld ?_ | refine sq V.lo ?_
        refine st V.move ?_
        refine se (S.lit1 (by rfl) (by decide) ?_); intro g31
        refine se (S.ap1 (by rfl) (by omega) (by omega) ?_)
        intro A2 c2
        refine se (S.store ?_)
        refine sn ?_
        refine AW.seq ?_
        refine AW.region ?_
        first | refine st V.ld ?_ | refine sq V.lo ?_
        refine st V.move ?_
        refine se (S.call ?_)
        refine (cons_c _ _ Ad cd d t hd.upD).use ?_
        rintro v4 N4 G4 iz4 ⟨⟨Ac, cc, rfl, ec⟩, hG⟩
        obtain rfl := hG.symm
        have hbc := ec.bd
        refine st V.len ?_
        refine st V.move ?_
        refine sn ?_
        refine AW.block ?_
        refine AW.loopL [37] (9 :: 11 :: 38 :: 39 :: 40 :: 41 :: 42 :: 43 :: 44 :: 45 :: 46 :: 47 :: 48 :: 49 :: 50 :: 51 :: 52 :: []) (fun n vs M' H' => ∃ (i : Nat) (A' : Option Addr) (c' : Nat) (m' : Value → Option Value) (l' : List Int), vs = [.int .i64 (i : Int)] ∧ H' = .blk bo (.cells #[.slice A' (l').length c'] 57 (0, 0)) :: .row A' (l').length c' 23 1 ((l').map (.int .i64)) :: .mp b (Go.MapKept.IsKey (.int .i64)) m' :: H ∧ l' = (((consF d t).take i).flatMap (·.fields)).foldl (fun l f => visF d s f l) (l ++ [t]) ∧ MemM m' l' ∧ OkL d l' ∧ l.length + 1 ≤ l'.length ∧ i + n = (consF d t).length) ((consF d t).length) (⟨0, A2, c2, upd m (.int .i64 t) (.int .i64 l.length), l ++ [t], rfl, by simp, rfl, hm.push t _, hok2, by simp, by omega⟩) ?_
        intro n Ml Hl iL u37 hI u9 u11 u38 u39 u40 u41 u42 u43 u44 u45 u46 u47 u48 u49 u50 u51 u52
        obtain ⟨i, A', c', m', l', hv, rfl, hl', hm', hok', hle', hi⟩ := hI
        cases hv
        refine sa ?_
        refine AW.seq ?_
        refine AW.region ?_
        refine st V.lss ?_
        refine sn ?_
        refine AW.seq ?_
        refine cond (fun h3 => ?_) (fun h3 => ?_)
        ·
          have k3 := bp h3
          refine AW.skip ?_
          refine AW.seq ?_
          refine AW.block ?_
          refine AW.seq ?_
          have z6 : i < (consF d t).length := by omega
          obtain ⟨b8, o8, hA8, i0, ib0, A8, c8, i1, i2⟩ := (ec.upC (M' := Ml)).at i z6
          have hbf := i2.bd
          refine AW.region ?_
          refine st (V.ib i rfl z6 hA8) ?_
          first | refine st V.ldA ?_ | refine sq V.loA ?_
          refine se (S.alloc ?_); intro b9
          refine se (S.storeA rfl ?_)
          refine sn ?_
          refine AW.seq ?_
          refine AW.region ?_
          refine st V.faz ?_
          first | refine st V.ld ?_ | refine sq V.lo ?_
          refine st V.len ?_
          refine st V.move ?_
          refine sn ?_
          refine AW.block ?_
          refine AW.drop (H' := .blk bo (.cells #[.slice A' (l').length c'] 57 (0, 0)) :: .row A' (l').length c' 23 1 ((l').map (.int .i64)) :: .mp b (Go.MapKept.IsKey (.int .i64)) m' :: H) (by repeat first | exact List.Sublist.refl _ | apply List.Sublist.cons) ?_
          refine AW.loopL [44] (11 :: 45 :: 46 :: 47 :: 48 :: 49 :: 50 :: 51 :: []) (fun n vs M' H' => ∃ (j : Nat) (A' : Option Addr) (c' : Nat) (m' : Value → Option Value) (l' : List Int), vs = [.int .i64 (j : Int)] ∧ H' = .blk bo (.cells #[.slice A' (l').length c'] 57 (0, 0)) :: .row A' (l').length c' 23 1 ((l').map (.int .i64)) :: .mp b (Go.MapKept.IsKey (.int .i64)) m' :: H ∧ l' = (((consF d t).take i).flatMap (·.fields) ++ (consF d t)[i].fields.take j).foldl (fun l f => visF d s f l) (l ++ [t]) ∧ MemM m' l' ∧ OkL d l' ∧ l.length + 1 ≤ l'.length ∧ j + n = (consF d t)[i].fields.length) ((consF d t)[i].fields.length) (⟨0, A', c', m', l', rfl, rfl, by rw [hl']; simp, hm', hok', hle', by omega⟩) ?_
          intro n1 Ml1 Hl1 iL1 u44 hI1 u11 u45 u46 u47 u48 u49 u50 u51
          obtain ⟨j, A3, c3, m3, l3, hv, rfl, hl3, hm3, hok3, hle3, hj⟩ := hI1
          cases hv
          refine sa ?_
          refine AW.seq ?_
          refine AW.region ?_
          refine st V.lss ?_
          refine sn ?_
          refine AW.seq ?_
          refine cond (fun h4 => ?_) (fun h4 => ?_)
          ·
            have k4 := bp h4
            refine AW.skip ?_
            refine AW.seq ?_
            refine AW.block ?_
            refine AW.seq ?_
            have z9 : j < (consF d t)[i].fields.length := by omega
            obtain ⟨b7, o7, hA7, e7⟩ := (i2.upI (M' := Ml1)).at j z9
            have e7 : Mk Ml1 b7 (o7 + j * 1) (.int .i64 (consF d t)[i].fields[j]) := e7
            refine AW.region ?_
            refine st (V.ib j rfl z9 hA7) ?_
            first | refine st V.ld ?_ | refine sq V.lo ?_
            refine st V.assign ?_
            refine sn ?_
            refine AW.region ?_
            first | refine st V.ld ?_ | refine sq V.lo ?_
            refine st V.move ?_
            refine se (S.call ?_)
            refine (visit_c d hd8 s _ l3 hok3 (by omega) _ H b bm bd bo bv Ad cd A3 c3 m3 inferInstance inferInstance inferInstance hd.upD hm3).use ?_
            rintro v N G iz ⟨rfl, A5, c5, m5, hm5, hG⟩
            obtain rfl := hG
            refine sn ?_
            refine AW.region ?_
            refine st (V.add64 (by omega)) ?_
            refine st V.move ?_
            refine sn ?_
            repeat with_reducible refine inb_normal ?_
            refine thn_normal ?_
            refine rnd (n1 - 1) _ (by omega) (List.Sublist.refl _) ⟨j + 1, A5, c5, m5, _, by simp, rfl, ?_, hm5, (visF_ok d s _ l3 hok3).1, Nat.le_trans hle3 (visF_ok d s _ l3 hok3).2, by omega⟩
            rw [take_succ _ _ z9, ← List.append_assoc, List.foldl_append, ← hl3]; rfl
          ·
            have k4 := bp h4
            refine AW.exit ?_
            repeat with_reducible refine thn_exit ?_
            refine inb_exit ?_
            refine AW.region ?_
            refine st (V.add64 (by omega)) ?_
            refine st V.move ?_
            refine sn ?_
            repeat with_reducible refine inb_normal ?_
            refine thn_normal ?_
            refine rnd (n - 1) _ (by omega) (List.Sublist.refl _) ⟨i + 1, A3, c3, m3, l3, by simp, rfl, ?_, hm3, hok3, hle3, by omega⟩
            have e9 : (consF d t)[i].fields.take j = (consF d t)[i].fields := List.take_of_length_le (by omega)
            rw [hl3, take_succ _ _ z6, List.flatMap_append, e9, List.flatMap_cons, List.flatMap_nil, List.append_nil]
        ·
          have k3 := bp h3
          refine AW.exit ?_
          repeat with_reducible refine thn_exit ?_
          refine inb_exit ?_
          repeat with_reducible refine inb_normal ?_
          refine fin0 (Res.zero rfl) ?_
          refine ⟨_, List.Sublist.refl _, rfl, A', c', m', ?_⟩
          have e : visF d (s + 1) t l = l' := by rw [visF_new k2 hnin, hl', List.take_of_length_le (by omega)]; rfl
          rw [e]; exact ⟨hm', rfl⟩
    ·
      have k1 := bp h1
      refine off rfl h1 ?_
      refine off rfl h1 ?_
      refine off rfl h1 ?_
      refine st (V.pT h1) ?_
      refine sn ?_
      refine cond (fun _ => ?_) (fun h => by cases h)
      refine AW.ret ?_
      repeat with_reducible first | refine thn_ret ?_ | refine inb_ret ?_
      refine fin (Res.zero rfl) ?_
      refine ⟨_, List.Sublist.refl _, rfl, A, c, m, by rw [visF_in ((hm t).1 h1)]; exact hm, by rw [visF_in ((hm t).1 h1)]⟩
set_option maxHeartbeats 1600000 in
set_option synthInstance.maxHeartbeats 400000 in
set_option synthInstance.maxSize 100000 in
set_option maxRecDepth 100000 in
theorem reach_c (d : List DT) (hd8 : d.length ≤ 1000000) (M : Mem) (H : Heap) (A : Option Addr) (c : Nat) (hd : RdS 2 (RdD M) A c d) (t : Int) :
    AC Tryz.prog 82 [.slice A d.length c, .int .i64 t] M H fun v M' H' => ∃ A' c', v = .slice A' (reachF d t).length c' ∧ RdS 1 (RdI M') A' c' (reachF d t) ∧ H' = H := by
  refine AC.of (n := 12) Tryz.func82 rfl rfl ?_
  dsimp only [List.replicate, List.cons_append, List.nil_append]
  refine AW.seq ?_
  refine AW.region ?_
  refine se (S.boxM ?_); intro b2 M2 i2 j2
  refine st V.assign ?_
  refine sn ?_
  refine AW.seq ?_
  refine AW.region ?_
  refine se (S.alloc ?_); intro b5
  refine sn ?_
  refine AW.seq ?_
  refine AW.region ?_
  refine se (S.makeMap ?_); intro b8
  refine se (S.alloc ?_); intro b6
  refine se (S.store ?_)
  refine sn ?_
  refine AW.seq ?_
  refine AW.region ?_
  refine se (S.alloc ?_); intro b7
  refine sn ?_
  refine AW.seq ?_
  refine AW.region ?_
  refine st V.fn ?_
  refine se (S.store ?_)
  refine sn ?_
  refine AW.seq ?_
  refine AW.fz 0 fun Mv iv jv => ?_
  refine AW.fz 0 fun Mm im jm => ?_
  refine AW.row0 23 1 ?_
  refine AW.front 2 ?_
  have z0 : OkL d [] := ⟨by simp, by simp⟩
  refine AW.region ?_
  first | refine st V.ld ?_ | refine sq V.lo ?_
  refine st V.move ?_
  refine se (S.call ?_)
  refine (visit_c d hd8 (d.length + 2) t [] z0 (by simp) _ _ b8 b6 b2 b5 b7 A c none 0 (fun _ => none) inferInstance inferInstance inferInstance hd.upD MemM.nil).use ?_
  rintro v N G iz ⟨rfl, A5, c5, m5, hm5, hG⟩
  obtain rfl := hG
  refine AO.kp 1 fun Mk ik hk => ?_
  refine sn ?_
  refine AW.seq ?_
  refine AW.region ?_
  first | refine st V.ld ?_ | refine sq V.lo ?_
  refine st V.assign ?_
  refine sn ?_
  refine AW.ret ?_
  repeat with_reducible first | refine thn_ret ?_ | refine inb_ret ?_
  refine fin (Res.i1 rfl) ?_
  have hl := (visF_ok d (d.length + 2) t [] z0).1.len
  refine ⟨_, (by repeat first | exact List.Sublist.refl _ | apply List.Sublist.cons), A5, c5, rfl, hk.ints rfl (by omega), rfl⟩
set_option maxHeartbeats 1600000 in
set_option synthInstance.maxHeartbeats 400000 in
set_option synthInstance.maxSize 100000 in
set_option maxRecDepth 100000 in
theorem rec_c (d : List DT) (hd8 : d.length ≤ 1000000) (M : Mem) (H : Heap) (A : Option Addr) (c : Nat) (hd : RdS 2 (RdD M) A c d) (t : Int) :
    AC Tryz.prog 83 [.slice A d.length c, .int .i64 t] M H fun v M' H' => v = .bool (recF d t) ∧ H' = H := by
  refine AC.of (n := 29) Tryz.func83 rfl rfl ?_
  dsimp only [List.replicate, List.cons_append, List.nil_append]
  refine AW.seq ?_
  refine AW.region ?_
  refine st V.assign ?_
  refine sn ?_
  refine AW.seq ?_
  refine AW.seq ?_
  refine AW.region ?_
  refine st V.move ?_
  refine st V.move ?_
  refine se (S.call ?_)
  refine (cons_c _ _ A c d t hd.upD).use ?_
  rintro v4 N4 G4 iz4 ⟨⟨Ac, cc, rfl, ec⟩, hG⟩
  obtain rfl := hG.symm
  have hbc := ec.bd
  refine st V.len ?_
  refine st V.move ?_
  refine sn ?_
  refine AW.block ?_
  refine AW.loopL [13] (4 :: 6 :: 8 :: 14 :: 15 :: 16 :: 17 :: 18 :: 19 :: 20 :: 21 :: 22 :: 23 :: 24 :: 25 :: 26 :: 27 :: 28 :: 29 :: 30 :: []) (fun n vs M' H' => ∃ i : Nat, vs = [.int .i64 (i : Int)] ∧ H' = H ∧ i + n = (consF d t).length ∧ (∀ k (h : k < (consF d t).length), k < i → (consF d t)[k].fields.any (fun f => (reachF d f).any fun x => decide (t = x)) = false)) ((consF d t).length) (⟨0, rfl, rfl, by omega, fun k _ h => by omega⟩) ?_
  intro n Ml Hl iL u13 hI u4 u6 u8 u14 u15 u16 u17 u18 u19 u20 u21 u22 u23 u24 u25 u26 u27 u28 u29 u30
  obtain ⟨i, hv, hH, hi, hall⟩ := hI
  obtain rfl := hH.symm
  cases hv
  refine sa ?_
  refine AW.seq ?_
  refine AW.region ?_
  refine st V.lss ?_
  refine sn ?_
  refine AW.seq ?_
  refine cond (fun h1 => ?_) (fun h1 => ?_)
  ·
    have k1 := bp h1
    refine AW.skip ?_
    refine AW.seq ?_
    refine AW.block ?_
    refine AW.seq ?_
    have z6 : i < (consF d t).length := by omega
    obtain ⟨b8, o8, hA8, i0, ib0, A8, c8, i1, i2⟩ := (ec.upC (M' := Ml)).at i z6
    have hbf := i2.bd
    refine AW.region ?_
    refine st (V.ib i rfl z6 hA8) ?_
    first | refine st V.ldA ?_ | refine sq V.loA ?_
    refine se (S.alloc ?_); intro b6
    refine se (S.storeA rfl ?_)
    refine sn ?_
    refine AW.seq ?_
    refine AW.region ?_
    refine st V.faz ?_
    first | refine st V.ld ?_ | refine sq V.lo ?_
    refine st V.len ?_
    refine st V.move ?_
    refine sn ?_
    refine AW.block ?_
    refine AW.drop (H' := H) (by repeat first | exact List.Sublist.refl _ | apply List.Sublist.cons) ?_
    refine AW.loopL [20] (4 :: 8 :: 21 :: 22 :: 23 :: 24 :: 25 :: 26 :: 27 :: 28 :: 29 :: []) (fun n vs M' H' => ∃ j : Nat, vs = [.int .i64 (j : Int)] ∧ H' = H ∧ j + n = (consF d t)[i].fields.length ∧ (∀ k (h : k < (consF d t)[i].fields.length), k < j → ((reachF d (consF d t)[i].fields[k]).any fun x => decide (t = x)) = false)) ((consF d t)[i].fields.length) (⟨0, rfl, rfl, by omega, fun k _ h => by omega⟩) ?_
    intro n1 Ml1 Hl1 iL1 u20 hI1 u4 u8 u21 u22 u23 u24 u25 u26 u27 u28 u29
    obtain ⟨j, hv, hH, hj, hall1⟩ := hI1
    obtain rfl := hH.symm
    cases hv
    refine sa ?_
    refine AW.seq ?_
    refine AW.region ?_
    refine st V.lss ?_
    refine sn ?_
    refine AW.seq ?_
    refine cond (fun h2 => ?_) (fun h2 => ?_)
    ·
      have k2 := bp h2
      refine AW.skip ?_
      refine AW.seq ?_
      refine AW.block ?_
      refine AW.seq ?_
      have z9 : j < (consF d t)[i].fields.length := by omega
      obtain ⟨b7, o7, hA7, e7⟩ := (i2.upI (M' := Ml1)).at j z9
      have e7 : Mk Ml1 b7 (o7 + j * 1) (.int .i64 (consF d t)[i].fields[j]) := e7
      refine AW.region ?_
      refine st (V.ib j rfl z9 hA7) ?_
      first | refine st V.ld ?_ | refine sq V.lo ?_
      refine st V.assign ?_
      refine sn ?_
      refine AW.seq ?_
      refine AW.region ?_
      refine st V.move ?_
      refine st V.move ?_
      refine se (S.call ?_)
      refine (reach_c d hd8 _ _ A c hd.upD _).use ?_
      rintro v5 N5 G5 iz5 ⟨Ar, cr, rfl, er, hG⟩
      obtain rfl := hG.symm
      refine st V.move ?_
      refine se (S.call ?_)
      refine (conV_c t _ _ Ar cr _ er.upI).use ?_
      rintro v6 N6 G6 iz6 ⟨rfl, hG⟩
      obtain rfl := hG.symm
      refine sn ?_
      refine cond (fun h3 => ?_) (fun h3 => ?_)
      ·
        have k3 := bp h3
        refine AW.seq ?_
        refine AW.region ?_
        refine st V.assign ?_
        refine sn ?_
        refine AW.ret ?_
        repeat with_reducible first | refine thn_ret ?_ | refine inb_ret ?_
        refine fin (Res.i1 rfl) ?_
        exact ⟨_, (by repeat first | exact List.Sublist.refl _ | apply List.Sublist.cons), by rw [recF, any_at i z6 (any_at j z9 h3)], rfl⟩
      ·
        have k3 := bp h3
        refine AW.skip ?_
        refine AW.region ?_
        refine st (V.add64 (by omega)) ?_
        refine st V.move ?_
        refine sn ?_
        repeat with_reducible refine inb_normal ?_
        refine thn_normal ?_
        refine rnd (n1 - 1) _ (by omega) (by repeat first | exact List.Sublist.refl _ | apply List.Sublist.cons) ⟨j + 1, by simp, rfl, by omega, fun k hk hkj => ?_⟩
        rcases Nat.lt_or_ge k j with h | h
        · exact hall1 k hk h
        · obtain rfl : k = j := by omega
          exact h3
    ·
      have k2 := bp h2
      refine AW.exit ?_
      repeat with_reducible refine thn_exit ?_
      refine inb_exit ?_
      refine AW.region ?_
      refine st (V.add64 (by omega)) ?_
      refine st V.move ?_
      refine sn ?_
      repeat with_reducible refine inb_normal ?_
      refine thn_normal ?_
      refine rnd (n - 1) _ (by omega) (List.Sublist.refl _) ⟨i + 1, by simp, rfl, by omega, fun k hk hki => ?_⟩
      rcases Nat.lt_or_ge k i with h | h
      · exact hall k hk h
      · obtain rfl : k = i := by omega
        exact any_none fun j hj => hall1 j hj (by omega)
  ·
    have k1 := bp h1
    refine AW.exit ?_
    repeat with_reducible refine thn_exit ?_
    refine inb_exit ?_
    refine AW.seq ?_
    refine AW.region ?_
    refine st V.assign ?_
    refine sn ?_
    refine AW.ret ?_
    repeat with_reducible first | refine thn_ret ?_ | refine inb_ret ?_
    refine fin (Res.i1 rfl) ?_
    exact ⟨_, (by repeat first | exact List.Sublist.refl _ | apply List.Sublist.cons), by rw [recF, any_none fun j hj => hall j hj (by omega)], rfl⟩
set_option maxHeartbeats 1600000 in
set_option synthInstance.maxHeartbeats 400000 in
set_option synthInstance.maxSize 100000 in
set_option maxRecDepth 100000 in
theorem table_c (M : Mem) (H : Heap) (A : Option Addr) (c : Nat) (d : List DT) (hd : RdS 2 (RdD M) A c d) (t : Int) :
    AC Tryz.prog 32 [.slice A d.length c, .int .i64 t] M H fun v _ H' => v = .int .i64 (tableF d t) ∧ H' = H := by
  refine AC.of (n := 14) Tryz.func32 rfl rfl ?_
  dsimp only [List.replicate, List.cons_append, List.nil_append]
  refine AW.seq ?_
  refine AW.region ?_
  refine st V.assign ?_
  refine sn ?_
  refine AW.seq ?_
  refine AW.seq ?_
  refine AW.region ?_
  refine st V.move ?_
  refine se (S.call ?_)
  refine (check_c _ _ A c d hd.upD).use ?_
  rintro v N G iz ⟨rfl, hG⟩
  obtain rfl := hG.symm
  refine st V.neq ?_
  refine sn ?_
  refine cond (fun h1 => ?_) (fun h1 => ?_)
  ·
    have k1 := bp h1
    refine AW.seq ?_
    refine AW.region ?_
    refine st V.assign ?_
    refine sn ?_
    refine AW.ret ?_
    repeat with_reducible first | refine thn_ret ?_ | refine inb_ret ?_
    refine fin (Res.i1 rfl) ?_
    exact ⟨_, (by repeat first | exact List.Sublist.refl _ | apply List.Sublist.cons), by rw [tableF, if_pos k1], rfl⟩
  ·
    have k1 := bp h1
    refine AW.skip ?_
    refine AW.seq ?_
    refine AW.seq ?_
    refine AW.region ?_
    refine st V.move ?_
    refine st V.lss ?_
    refine st V.move ?_
    refine onoff true rfl rfl (fun h2 => ?_) (fun h2 => ?_)
    ·
      have k2 := bp h2
      refine st V.move ?_
      refine on rfl h2 ?_
      refine st V.move ?_
      refine on rfl h2 ?_
      refine st V.len ?_
      refine on rfl h2 ?_
      refine st V.gtr ?_
      refine st (V.pF h2) ?_
      refine sn ?_
      refine cond (fun h3 => ?_) (fun h3 => ?_)
      ·
        have k3 := bp h3
        refine AW.seq ?_
        refine AW.region ?_
        refine st V.assign ?_
        refine sn ?_
        refine AW.ret ?_
        repeat with_reducible first | refine thn_ret ?_ | refine inb_ret ?_
        refine fin (Res.i1 rfl) ?_
        exact ⟨_, (by repeat first | exact List.Sublist.refl _ | apply List.Sublist.cons), by first | rw [tableF, if_neg (fun h => h k1), if_pos (by omega)] | rw [tableF, if_neg (fun h => h k1), if_neg (by omega)], rfl⟩
      ·
        have k3 := bp h3
        refine AW.skip ?_
        refine AW.seq ?_
        refine AW.region ?_
        refine st V.assign ?_
        refine sn ?_
        refine AW.ret ?_
        repeat with_reducible first | refine thn_ret ?_ | refine inb_ret ?_
        refine fin (Res.i1 rfl) ?_
        exact ⟨_, (by repeat first | exact List.Sublist.refl _ | apply List.Sublist.cons), by first | rw [tableF, if_neg (fun h => h k1), if_pos (by omega)] | rw [tableF, if_neg (fun h => h k1), if_neg (by omega)], rfl⟩
    ·
      have k2 := bp h2
      refine off rfl h2 ?_
      refine off rfl h2 ?_
      refine off rfl h2 ?_
      refine st (V.pT h2) ?_
      refine sn ?_
      refine cond (fun _ => ?_) (fun h => by cases h)
      refine AW.seq ?_
      refine AW.region ?_
      refine st V.assign ?_
      refine sn ?_
      refine AW.ret ?_
      repeat with_reducible first | refine thn_ret ?_ | refine inb_ret ?_
      refine fin (Res.i1 rfl) ?_
      exact ⟨_, (by repeat first | exact List.Sublist.refl _ | apply List.Sublist.cons), by first | rw [tableF, if_neg (fun h => h k1), if_pos (by omega)] | rw [tableF, if_neg (fun h => h k1), if_neg (by omega)], rfl⟩
set_option maxHeartbeats 1600000 in
set_option synthInstance.maxHeartbeats 400000 in
set_option synthInstance.maxSize 100000 in
set_option maxRecDepth 100000 in
theorem cells1_c (M : Mem) (H : Heap) (t con : Int) :
    AC Tryz.prog 34 [.int .i64 t, .int .i64 con] M H fun v _ H' => v = .tuple #[] ∧ H' = H := by
  refine AC.of (n := 2) Tryz.func34 rfl rfl ?_
  dsimp only [List.replicate, List.cons_append, List.nil_append]
  refine AW.skip ?_
  repeat with_reducible refine inb_normal ?_
  refine fin0 (Res.zero rfl) ?_
  exact ⟨_, (by repeat first | exact List.Sublist.refl _ | apply List.Sublist.cons), rfl, rfl⟩
end Go.Proofs.YtieaiheejhmbfaaGreatDoor.ML
