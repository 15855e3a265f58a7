/- The abstract layer: strings.Builder. No conditions. -/
import Derived.Test.YtieaiheejhmbfaaGreatDoorPk14
import Derived.Lib.AppendStr
import Derived.Lib.UnsafeStr
import Derived.LaidEqlPtr
import Derived.Laws.Externs
import Derived.Lib.Builder
import Derived.Test.YtieaiheejhmbfaaGreatDoorShelf
namespace Go.Proofs.YtieaiheejhmbfaaGreatDoor.ML
open Go.RowKit
set_option linter.unusedVariables false
set_option linter.unusedSimpArgs false
theorem AC.calls {P : Program} {f : Nat} {av : List Value} {M : Mem} {H : Heap} {R : Value → Mem → Heap → Prop} (h : ∀ (g : GW) (w : World), St g M H w → Calls P f av.toArray w fun e w' => ∃ v M' H', e = .returned v ∧ M.le M' ∧ St g M' H' w' ∧ R v M' H') : AC P f av M H R := fun g w hS => by
  have e : fw none = Fence.wide := rfl
  rw [e]
  exact callsIn_wide.2 (h g w hS)
theorem St.below {g : GW} {M : Mem} {H : Heap} {w w' : World} (hS : St g M H w) (hb : Below w.heap.size w w') : St g M H w' :=
  ⟨hb.os.trans hS.os, hb.tape.trans hS.tape, hb.output.trans hS.output, Nat.le_trans hS.size hb.size, fun b o hm => by rw [hb.block b (hS.mlt hm)]; exact hS.mem b o hm,
    fun e he => Ent.ok_of (hS.own e he) fun b hbb => hb.block b (Ent.lt (hS.own e he) b hbb), hS.nodup, hS.apart, hS.dsok⟩
abbrev bldE (b : Nat) (p : Option Addr) (A : Option Addr) (n c : Nat) : Ent := .blk b (.cells #[.pointer p, .slice A n c] 85 (0, 0))
section
variable {P : Program} {ro : RO} {tm : Tm} {F : Value → Tm} {M : Mem} {H : Heap} {K : Tm → Mem → Heap → Prop} {gd : Option (Nat × Bool)}
variable {d : Nat} {ty : TypeId} {pos : String} {aft : Array Edge} {x y : Operand} {T T' T2 : TypeId}
/-- append of a string's bytes. -/
theorem S.apS {A : Option Addr} {n c E : Nat} {vs : List Value} {s : ByteArray} {FF : Ent → Heap} [hx : Ev tm x (.slice A n c)] [hy : Ev tm y (.string s)] [ha : Ap P T E 1 1] [hz : Zr P E (.int .u8 0)] [hs : Str P T'] [hp : Pt tm d F] [hr : Rwf H A n c E 1 vs FF] (hl : n + s.size ≤ 140737488355328)
    (h : ∀ A' c', ((A' = none ∧ c' = 0) ↔ (A = none ∧ c = 0) ∧ s.size = 0) → K (F (.slice A' (n + s.size) c')) M (FF (.row A' (n + s.size) c' E 1 (vs ++ Lib.strCells s)))) : AS P ro ⟨some d, .call ⟨.builtin .append, #[x, y], #[T, T']⟩, ty, pos, aft, gd⟩ tm M H K :=
  AS.val rfl fun g w hS => by
    obtain ⟨r, hr1, hr2⟩ := hr.out
    obtain ⟨i, zv, hu', hi, hz', hsz, hb, hzs, h0⟩ := Ap.parts (P := P) (T := T) (E := E) (z := 1) (b := 1)
    have hzz := hz.out
    rw [hi] at hzz
    simp only [Option.map_some, Option.some.injEq] at hzz
    have hS1 := hS.at hr1
    have hown : w.ownsRow 0 E 1 (.slice A n c) n vs := hS1.own _ (List.mem_cons_self ..)
    obtain ⟨v', w', hrun, hown', hgrow, hnil⟩ := Lib.run_append_own_string (P := P) w 0 T T' ty E i hu' hs.out hi hzz hsz hb _ n vs hown s (by unfold maxLen; omega) hl (Nat.zero_le _)
    obtain ⟨A', c', rfl⟩ : ∃ A' c', v' = .slice A' (n + s.size) c' := by
      rcases hown'.2 with ⟨e, e2⟩ | ⟨g1, cap, cur, e, _⟩
      · rw [e2]; exact ⟨none, 0, e⟩
      · exact ⟨_, _, e⟩
    have hnn : (A = none ∧ c = 0) → n = 0 := fun hh => by
      rcases hown.2 with ⟨e, e2⟩ | ⟨g1, cap, cur, e, _⟩
      · exact e2
      · rw [hh.1] at e; cases e
    refine ⟨_, w', M, _, ?_, .refl M, St.back (List.getElem?_eq_some_iff.1 hr1).1 (St.grow hS1 hgrow hown' fun b' hb' => ?_), by
      show K (tm.set d _) M _
      rw [hp.out, hr2]
      refine h A' c' ⟨fun hh => ?_, fun hh => ?_⟩
      · obtain ⟨rfl, rfl⟩ := hh
        have hn0 : n + s.size = 0 := by
          rcases hown'.2 with ⟨e, e2⟩ | ⟨g1, cap, cur, e, _⟩
          · exact e2
          · cases e
        obtain ⟨e, e2⟩ := hnil.1 (by rw [hn0])
        injection e with e3 e4 e5
        exact ⟨⟨e3, e5⟩, e2⟩
      · obtain ⟨⟨rfl, rfl⟩, h2⟩ := hh
        have hn := hnn ⟨rfl, rfl⟩
        subst hn
        have h3 := hnil.2 ⟨rfl, h2⟩
        injection h3 with e3 e4 e5
        exact ⟨e3, e5⟩⟩
    · simp only [execOp, resolve, Sem.run_bind, Sem.run_pure, Result.andThen_ok, invoke, builtin]
      simp [hx.out, hy.out, hrun]
    · rcases hown.2 with ⟨e, e2⟩ | ⟨g1, cap, cur, e, _, hg1, hnc, hcm, hcs, htk⟩
      · cases e
        have hown2 : w.ownsRow w.heap.size E 1 (.slice none 0 0) 0 vs := by
          have := World.ownsRow_nil w w.heap.size E 1
          have hvs : vs = [] := List.eq_nil_of_length_eq_zero (by have := hown.1; simpa using this)
          rw [hvs]; exact this
        obtain ⟨v2, w2, hrun2, hown2', _, _⟩ := Lib.run_append_own_string (P := P) w w.heap.size T T' ty E i hu' hs.out hi hzz hsz hb _ 0 vs hown2 s (by unfold maxLen; omega) (by omega) (Nat.le_refl _)
        rw [hrun] at hrun2
        injection hrun2 with e3 e4
        right
        rcases hown2'.2 with ⟨e, e2⟩ | ⟨g2, cap2, cur2, e, hge, _⟩
        · rw [← e3] at e; injection e with e6; subst e6; cases hb'
        · rw [← e3] at e; injection e with e6; subst e6; cases hb'; exact hge
      · cases e
        by_cases hroom : n + s.size ≤ c
        · have hr2' := Lib.run_append_room_string (P := P) w T T' ty E i hu' hs.out hi hsz g1 n c cur hg1 s hroom (by rw [hcs]; omega)
          rw [hr2'] at hrun
          cases hrun
          exact .inl hb'
        · have hr2' := Lib.run_append_grow_string (P := P) w T T' ty E i _ hu' hs.out hi hzz ⟨g1, 0, none⟩ n c vs (by rw [hsz]; have := hown.1; omega) (hown.cells (g := g1) rfl) s (by omega) (by omega) (growslice_fits (by omega) (by rw [hb]; omega))
          rw [hr2'] at hrun
          cases hrun
          right
          cases hb'
          exact Nat.le_refl _
/-- unsafe.SliceData of an own row or of nil. -/
theorem S.usd {A : Option Addr} {n c : Nat} [hx : Ev tm x (.slice A n c)] [hp : Pt tm d F] (hc : A = none ∨ (∃ g, A = some ⟨g, 0, none⟩) ∧ c ≠ 0) (h : K (F (.pointer A)) M H) : AS P ro ⟨some d, .call ⟨.builtin .unsafeSliceData, #[x], #[T]⟩, ty, pos, aft, gd⟩ tm M H K :=
  AS.val rfl fun g w hS => by
    refine ⟨.pointer A, w, M, H, ?_, .refl M, hS, by show K (tm.set d _) M H; rw [hp.out]; exact h⟩
    simp only [execOp, resolve, Sem.run_bind, Sem.run_pure, Result.andThen_ok, invoke, builtin]
    rcases hc with rfl | ⟨⟨g1, rfl⟩, hc⟩
    · simp [hx.out, Lib.run_unsafeSliceData_nil]
    · simp [hx.out, Lib.run_unsafeSliceData_row w #[T] ty _ n c hc]
/-- unsafe.String of nothing. -/
theorem S.us0 {p : Option Addr} [hx : Ev tm x (.pointer p)] [hy : Ev tm y (.int .i64 0)] [hp : Pt tm d F] (h : K (F (.string ⟨#[]⟩)) M H) : AS P ro ⟨some d, .call ⟨.builtin .unsafeString, #[x, y], #[T, T']⟩, ty, pos, aft, gd⟩ tm M H K :=
  AS.val rfl fun g w hS => by
    refine ⟨.string ⟨#[]⟩, w, M, H, ?_, .refl M, hS, by show K (tm.set d _) M H; rw [hp.out]; exact h⟩
    simp only [execOp, resolve, Sem.run_bind, Sem.run_pure, Result.andThen_ok, invoke, builtin]
    simp [hx.out, hy.out, Lib.run_unsafeString_none w T T' ty p, show ByteArray.empty = ⟨#[]⟩ from rfl]
class Pp (P : Program) (T : TypeId) (E : outParam TypeId) : Prop where
  o1 : P.underlying T = some (.pointer E)
  o2 : P.cellsOf E = 1
/-- unsafe.String of an own row's bytes, that lies first: the row is given away. -/
theorem S.us {g n c E : Nat} {s : ByteArray} [hx : Ev tm x (.pointer (some ⟨g, 0, none⟩))] [hy : Ev tm y (.int .i64 n)] [hE : Pp P T E] [hp : Pt tm d F] (hn : n = s.size) (h0 : 0 < s.size) (h : K (F (.string s)) M H) :
    AS P ro ⟨some d, .call ⟨.builtin .unsafeString, #[x, y], #[T, T']⟩, ty, pos, aft, gd⟩ tm M (.row (some ⟨g, 0, none⟩) n c E 1 (Lib.strCells s) :: H) K :=
  AS.val rfl fun g0 w hS => by
    subst hn
    have hown : w.ownsRow 0 E 1 (.slice (some ⟨g, 0, none⟩) s.size c) s.size (Lib.strCells s) := hS.own _ (List.mem_cons_self ..)
    obtain ⟨cap, cur, e, hg1, hnc, hcm, hcs, htk⟩ : ∃ cap cur, c = cap ∧ w.heap[g]? = some (.cells cur E (0, 0)) ∧ s.size ≤ cap ∧ cap ≤ maxLen ∧ cur.size = cap * 1 ∧ cur.toList.take (s.size * 1) = Lib.strCells s := by
      rcases hown.2 with ⟨_, hz⟩ | ⟨g1, cap, cur, hv, _, r⟩
      · omega
      · cases hv; exact ⟨_, cur, rfl, r⟩
    have hlen : s.data.toList.length = s.size := by simp
    have hrun := Lib.run_unsafeString_row (P := P) w T T' ty E hE.o1 hE.o2 g cur.size (by simp [World.shape?, hg1]) s.data.toList (by intro e; rw [e] at hlen; simp at hlen; omega) (by omega) (by unfold maxLen at hcm; omega) (fun j x hx => by
      refine hown.cells (g := g) rfl j _ ?_
      simp [Lib.strCells, hx])
    rw [hlen] at hrun
    refine ⟨.string s, w.freeze ⟨g, 0, none⟩ s.size, M, H, ?_, .refl M, ?_, by show K (tm.set d _) M H; rw [hp.out]; exact h⟩
    · simp only [execOp, resolve, Sem.run_bind, Sem.run_pure, Result.andThen_ok, invoke, builtin]
      simp [hx.out, hy.out, hrun]
    · have hb : ∀ k, k ≠ g → (w.freeze ⟨g, 0, none⟩ s.size).heap[k]? = w.heap[k]? := fun k hk => by
        unfold World.freeze
        split
        · rfl
        · show (w.heap.modify g _)[k]? = _
          rw [Array.getElem?_modify, if_neg (Ne.symm hk)]
      have hsz : (w.freeze ⟨g, 0, none⟩ s.size).heap.size = w.heap.size := by unfold World.freeze; split <;> simp
      have hfz : ∀ {X : Prop}, (w.freeze ⟨g, 0, none⟩ s.size).os = w.os ∧ (w.freeze ⟨g, 0, none⟩ s.size).tape = w.tape ∧ (w.freeze ⟨g, 0, none⟩ s.size).output = w.output := by
        intro X; unfold World.freeze; split <;> exact ⟨rfl, rfl, rfl⟩
      obtain ⟨f1, f2, f3⟩ := hfz (X := True)
      exact (St.turn (E := [.row (some ⟨g, 0, none⟩) s.size c E 1 (Lib.strCells s)]) (.row none 0 0 0 0 []) hS f1 f2 f3 (by omega) (World.ownsRow_nil _ 0 0 0) (fun k hk hne => hb k (fun e => hne (by subst e; simp [fps, Ent.fp]))) (fun k hk => by simp [Ent.fp] at hk) (by simp [Ent.fp])).drop
/-! ### Pointers -/
variable {dd : Option Tmp}
class Pn (P : Program) (T : TypeId) (E : outParam TypeId) : Prop where
  o1 : P.underlying T = some (.pointer E)
  o2 : (P.info? E).any (fun j => j.size != 0) = true
theorem Pn.out {P : Program} {T E : TypeId} [h : Pn P T E] : P.underlying T = some (.pointer E) ∧ ∃ j, P.info? E = some j ∧ j.size ≠ 0 := by
  refine ⟨h.o1, ?_⟩
  have := h.o2
  cases hi : P.info? E with
  | none => rw [hi] at this; cases this
  | some j => rw [hi] at this; exact ⟨j, rfl, by simpa using this⟩
theorem V.eqp0 {p : Option Addr} {E : TypeId} [hT : Pn P T E] [hx : Ev tm x (.pointer p)] [hy : Ev tm y (.pointer none)] : PVM P ⟨dd, .binOp .eql T x y T', ty, pos, aft, gd⟩ tm M (.bool p.isNone) :=
  .mk rfl (fun w => by
    simp only [execOp, hx.out, hy.out]
    refine run_v ?_
    have hg : (eqGuard .eql T x y (.pointer p) (.pointer none)) = pure () := rfl
    have hu := (Pn.out (h := hT)).1
    have h : ∀ d : Nat, (Op.equalIn (d + 1) T (.pointer p) (.pointer none)).run P w = .ok p.isNone w := fun d => by cases p <;> simp [Op.equalIn, run_underlying hu]
    simp only [binOp]
    simp [hg, Op.equal, Op.maxDepth, h 9999])
theorem V.nep {a : Addr} {E : TypeId} [hT : Pn P T E] [hx : Ev tm x (.pointer (some a))] [hy : Ev tm y (.pointer (some a))] : PVM P ⟨dd, .binOp .neq T x y T', ty, pos, aft, gd⟩ tm M (.bool false) :=
  .mk rfl (fun w => by
    simp only [execOp, hx.out, hy.out]
    refine run_v ?_
    have hg : (eqGuard .neq T x y (.pointer (some a)) (.pointer (some a))) = pure () := rfl
    obtain ⟨j, hj, hj0⟩ := (Pn.out (h := hT)).2
    have h : ∀ d : Nat, (Op.equalIn (d + 1) T (.pointer (some a)) (.pointer (some a))).run P w = .ok true w := fun d => by
      simp [Op.equalIn, run_underlying (Pn.out (h := hT)).1, sizeOf, typeInfo, hj, run_sameAddr_same]
    simp only [binOp]
    simp [hg, Op.equal, Op.maxDepth, h 9999])
/-- *T to unsafe.Pointer and back, at an own block. -/
theorem V.cvu {b : Nat} {cs : Array Value} {TT E : TypeId} [hT : Pn P T E] [hx : Ev tm x (.pointer (some ⟨b, 0, none⟩))] (hu : P.underlying T2 = some .unsafePointer) (r : Nat) (hr : H[r]? = some (.blk b (.cells cs TT (0, 0)))) (h0 : 0 < cs.size) : PVH P ⟨dd, .convert T T2 x, ty, pos, aft, gd⟩ tm M H (.pointer (some ⟨b, 0, none⟩)) :=
  ⟨rfl, fun g w hS => by
    obtain ⟨j, hj, hj0⟩ := (Pn.out (h := hT)).2
    have hb : w.heap[b]? = some (.cells cs TT (0, 0)) := hS.own _ (List.mem_of_getElem? hr)
    simp only [execOp, hx.out]
    exact run_v (Lib.run_to_unsafe w ⟨b, 0, none⟩ (Pn.out (h := hT)).1 hu hj hj0 (e := TT) (cells := cs.size) (by simp [World.shape?, hb]) h0)⟩
theorem V.cvf {b : Nat} {cs : Array Value} {TT E : TypeId} [hT : Pn P T2 E] [hx : Ev tm x (.pointer (some ⟨b, 0, none⟩))] (hu : P.underlying T = some .unsafePointer) (r : Nat) (hr : H[r]? = some (.blk b (.cells cs TT (0, 0)))) (hl : liesAt P P.depth TT (cs.size / P.cellsOf TT) 0 E 1 = true) : PVH P ⟨dd, .convert T T2 x, ty, pos, aft, gd⟩ tm M H (.pointer (some ⟨b, 0, none⟩)) :=
  ⟨rfl, fun g w hS => by
    obtain ⟨j, hj, hj0⟩ := (Pn.out (h := hT)).2
    have hb : w.heap[b]? = some (.cells cs TT (0, 0)) := hS.own _ (List.mem_of_getElem? hr)
    simp only [execOp, hx.out]
    exact run_v (Lib.run_from_unsafe w ⟨b, 0, none⟩ hu (Pn.out (h := hT)).1 hj (e := TT) (cells := cs.size) (by simp [World.shape?, hb]) hl)⟩
/-- A call of abi.NoEscape. -/
theorem S.nesc {f : Nat} {fn : Func} {v : Value} [hx : Ev tm x (.func (.func f) #[] #[])] [hy : Ev tm y v] [hp : Pt tm d F] (hf : P.funcs[f]? = some fn) (hname : (fn.name == "runtime.NumGoroutine") = false) (hb : fn.body.isNone = true) (hn : Extern.findNext fn = none) (he : Extern.find fn = some Extern.AbiNoEscape.same) (h : K (F v) M H) {ts : Array TypeId} :
    AS P ro ⟨some d, .call ⟨.value x, #[y], ts⟩, ty, pos, aft, gd⟩ tm M H K :=
  AS.val rfl fun g w hS => by
    refine ⟨v, w, M, H, ?_, .refl M, hS, by show K (tm.set d _) M H; rw [hp.out]; exact h⟩
    have := run_callFunc_extern hf hname hb hn he #[v] w
    rw [Lib.run_noEscape] at this
    simp only [execOp, resolve, hx.out, Deferred.ofValue, Sem.run_bind, Sem.run_pure, Result.andThen_ok, invoke]
    simp [hy.out, this]
end
theorem strCells_app (s t : ByteArray) : Lib.strCells s ++ Lib.strCells t = Lib.strCells (s ++ t) := by
  unfold Lib.strCells
  rw [← List.map_append, ByteArray.data_append, Array.toList_append]
theorem size0 {s : ByteArray} (h : s.size = 0) : s = ⟨#[]⟩ := by
  cases s with
  | mk d => have : d = #[] := Array.eq_empty_of_size_eq_zero h; rw [this]
theorem rowCase {A : Option Addr} {n c z : Nat} {vs : List Value} (hA : (A = none ∧ c = 0) ↔ n = 0) (h : vs.length = n * z ∧ n ≤ c ∧ c ≤ maxLen ∧ (0 < n → ∃ b, A = some ⟨b, 0, none⟩)) : (A = none ∧ c = 0 ∧ n = 0) ∨ ∃ g, A = some ⟨g, 0, none⟩ ∧ c ≠ 0 ∧ 0 < n := by
  rcases Nat.eq_zero_or_pos n with h0 | h0
  · obtain ⟨h1, h2⟩ := hA.2 h0; exact .inl ⟨h1, h2, h0⟩
  · obtain ⟨g, hg⟩ := h.2.2.2 h0; exact .inr ⟨g, hg, by omega, h0⟩
instance : Pp Tryz.prog 128 5 := ⟨by kernel_rfl, by kernel_rfl⟩
instance : Pn Tryz.prog 82 85 := ⟨by kernel_rfl, by kernel_rfl⟩
end Go.Proofs.YtieaiheejhmbfaaGreatDoor.ML
/- Walks of functions of the program, in the abstract layer. No conditions. -/
namespace Go.Proofs.YtieaiheejhmbfaaGreatDoor.ML
open Go.RowKit
set_option linter.unusedVariables false
set_option linter.unusedSimpArgs false
set_option maxHeartbeats 1600000 in
set_option synthInstance.maxHeartbeats 400000 in
set_option synthInstance.maxSize 100000 in
set_option maxRecDepth 100000 in
theorem cchk_c (M : Mem) (H : Heap) (b : Nat) (p A : Option Addr) (n c : Nat) (hp : p = none ∨ p = some ⟨b, 0, none⟩) :
    AC Tryz.prog 100 [.pointer (some ⟨b, 0, none⟩)] M (.blk b (.cells #[.pointer p, .slice A n c] 85 (0, 0)) :: H) fun v _ H' => v = .tuple #[] ∧ H' = .blk b (.cells #[.pointer (some ⟨b, 0, none⟩), .slice A n c] 85 (0, 0)) :: H := by
  refine AC.of (n := 19) Tryz.func100 rfl rfl ?_
  dsimp only [List.replicate, List.cons_append, List.nil_append]
  refine AW.seq ?_
  refine AW.region ?_
  refine st V.move ?_
  refine st (by first | exact V.nc | exact V.ncF) ?_
  refine st V.fa0 ?_
  first | refine st V.ld ?_ | refine sq V.lo ?_
  refine st (V.eqp0) ?_
  refine sn ?_
  refine cond (fun h1 => ?_) (fun h1 => ?_)
  ·
    have k1 := bp h1
    obtain rfl : p = none := by simpa using h1
    refine AW.region ?_
    refine st V.move ?_
    refine st V.move ?_
    refine sq (V.cvu (by kernel_rfl) 0 rfl (by simp)) ?_
    refine se (S.nesc (fn := Tryz.f123) rfl (by kernel_rfl) (by kernel_rfl) (by kernel_rfl) (by kernel_rfl) ?_)
    refine sq (V.cvf (by kernel_rfl) 0 rfl (by kernel_rfl)) ?_
    refine st (by first | exact V.nc | exact V.ncF) ?_
    refine st V.fa0 ?_
    refine se (S.store ?_)
    refine sn ?_
    repeat with_reducible refine inb_normal ?_
    refine fin0 (Res.zero rfl) ?_
    exact ⟨_, (by repeat first | exact List.Sublist.refl _ | apply List.Sublist.cons), rfl, rfl⟩
  ·
    have k1 := bp h1
    obtain rfl : p = some ⟨b, 0, none⟩ := by rcases hp with rfl | rfl; cases h1; rfl
    refine AW.seq ?_
    refine AW.region ?_
    refine st V.move ?_
    refine st (by first | exact V.nc | exact V.ncF) ?_
    refine st V.fa0 ?_
    first | refine st V.ld ?_ | refine sq V.lo ?_
    refine st V.move ?_
    refine st (V.nep) ?_
    refine sn ?_
    refine cond (fun h2 => ?_) (fun h2 => ?_)
    ·
      have k2 := bp h2
      first | contradiction | omega | (exfalso; simp_all)
    ·
      have k2 := bp h2
      refine AW.skip ?_
      repeat with_reducible refine inb_normal ?_
      refine fin0 (Res.zero rfl) ?_
      exact ⟨_, (by repeat first | exact List.Sublist.refl _ | apply List.Sublist.cons), rfl, rfl⟩
set_option maxHeartbeats 1600000 in
set_option synthInstance.maxHeartbeats 400000 in
set_option synthInstance.maxSize 100000 in
set_option maxRecDepth 100000 in
theorem blen_c (M : Mem) (H : Heap) (b : Nat) (p A : Option Addr) (n c : Nat) :
    AC Tryz.prog 43 [.pointer (some ⟨b, 0, none⟩)] M (.blk b (.cells #[.pointer p, .slice A n c] 85 (0, 0)) :: H) fun v _ H' => v = .int .i64 n ∧ H' = .blk b (.cells #[.pointer p, .slice A n c] 85 (0, 0)) :: H := by
  refine AC.of (n := 7) Tryz.func43 rfl rfl ?_
  dsimp only [List.replicate, List.cons_append, List.nil_append]
  refine AW.seq ?_
  refine AW.region ?_
  refine st V.assign ?_
  refine sn ?_
  refine AW.seq ?_
  refine AW.region ?_
  refine st V.move ?_
  refine st (by first | exact V.nc | exact V.ncF) ?_
  refine st V.faz ?_
  first | refine st V.ld ?_ | refine sq V.lo ?_
  refine st V.len ?_
  refine st V.assign ?_
  refine sn ?_
  refine AW.ret ?_
  repeat with_reducible first | refine thn_ret ?_ | refine inb_ret ?_
  refine fin (Res.i1 rfl) ?_
  exact ⟨_, (by repeat first | exact List.Sublist.refl _ | apply List.Sublist.cons), rfl, rfl⟩
set_option maxHeartbeats 1600000 in
set_option synthInstance.maxHeartbeats 400000 in
set_option synthInstance.maxSize 100000 in
set_option maxRecDepth 100000 in
theorem bws_c (M : Mem) (H : Heap) (b : Nat) (p A : Option Addr) (c : Nat) (hp : p = none ∨ p = some ⟨b, 0, none⟩) (s t : ByteArray) (hs : s.size + t.size ≤ 140737488355328) :
    AC Tryz.prog 73 [.pointer (some ⟨b, 0, none⟩), .string t] M (.blk b (.cells #[.pointer p, .slice A s.size c] 85 (0, 0)) :: .row A s.size c 5 1 (Lib.strCells s) :: H) fun v _ H' => v = .tuple #[.int .i64 t.size, .nilIface] ∧ ∃ A' c', ((A' = none ∧ c' = 0) ↔ (A = none ∧ c = 0) ∧ t.size = 0) ∧ H' = .blk b (.cells #[.pointer (some ⟨b, 0, none⟩), .slice A' (s ++ t).size c'] 85 (0, 0)) :: .row A' (s ++ t).size c' 5 1 (Lib.strCells (s ++ t)) :: H := by
  refine AC.of (n := 17) Tryz.func73 rfl rfl ?_
  dsimp only [List.replicate, List.cons_append, List.nil_append]
  refine AW.seq ?_
  refine AW.region ?_
  refine st V.assign ?_
  refine st V.assign ?_
  refine sn ?_
  refine AW.seq ?_
  refine AW.region ?_
  refine st V.move ?_
  refine se (S.call ?_)
  refine (cchk_c _ _ b p A s.size c hp).use ?_
  rintro v N G iz ⟨rfl, hG⟩
  obtain rfl := hG.symm
  refine sn ?_
  refine AW.seq ?_
  refine AW.region ?_
  refine st V.move ?_
  refine st V.move ?_
  refine st (by first | exact V.nc | exact V.ncF) ?_
  refine st V.faz ?_
  first | refine st V.ld ?_ | refine sq V.lo ?_
  refine st V.move ?_
  refine se (S.apS (by omega) ?_)
  intro A2 c2 hA2
  refine st (by first | exact V.nc | exact V.ncF) ?_
  refine st V.faz ?_
  refine se (S.store ?_)
  refine sn ?_
  refine AW.seq ?_
  refine AW.region ?_
  refine st V.move ?_
  refine st V.lenS ?_
  refine st V.assign ?_
  refine st V.assign ?_
  refine sn ?_
  refine AW.ret ?_
  repeat with_reducible first | refine thn_ret ?_ | refine inb_ret ?_
  refine fin (Res.i2 rfl) ?_
  refine ⟨_, List.Sublist.refl _, rfl, A2, c2, hA2, ?_⟩
  rw [strCells_app, ByteArray.size_append]
set_option maxHeartbeats 1600000 in
set_option synthInstance.maxHeartbeats 400000 in
set_option synthInstance.maxSize 100000 in
set_option maxRecDepth 100000 in
theorem bstr0_c (M : Mem) (H : Heap) (b : Nat) (p : Option Addr) :
    AC Tryz.prog 44 [.pointer (some ⟨b, 0, none⟩)] M (.blk b (.cells #[.pointer p, .slice none 0 0] 85 (0, 0)) :: H) fun v _ H' => v = .string ⟨#[]⟩ ∧ H' = H := by
  refine AC.of (n := 13) Tryz.func44 rfl rfl ?_
  dsimp only [List.replicate, List.cons_append, List.nil_append]
  refine AW.seq ?_
  refine AW.region ?_
  refine st V.assign ?_
  refine sn ?_
  refine AW.seq ?_
  refine AW.regionP mx [0, 1, 2, 3, 5, 6, 7, 8, 9, 4, 10, 11] [[], [0], [0, 1], [0, 1, 2], [0, 1, 2, 3], [], [5], [5, 6], [5, 6, 7], [5, 6, 7, 8], [0, 1, 2, 3, 4, 5, 6, 7, 8, 9], [0, 1, 2, 3, 4, 5, 6, 7, 8, 9, 10]] (by kernel_rfl) ?_
  refine DP.p rfl rfl V.move ?_
  refine DP.p rfl rfl (by first | exact V.nc | exact V.ncF) ?_
  refine DP.p rfl rfl V.faz ?_
  refine DP.lo rfl ?_
  refine DP.p rfl rfl V.move ?_
  refine DP.p rfl rfl (by first | exact V.nc | exact V.ncF) ?_
  refine DP.p rfl rfl V.faz ?_
  refine DP.lo rfl ?_
  refine DP.p rfl rfl V.len ?_
  refine DP.e rfl rfl (S.usd (.inl rfl) ?_)
  refine ⟨(by repeat first | exact pk0 | refine pk1 rfl ?_ | refine pk2 ?_ | refine pk3 ?_), ?_⟩
  refine DP.e rfl rfl (S.us0 ?_)
  refine ⟨(by repeat first | exact pk0 | refine pk1 rfl ?_ | refine pk2 ?_ | refine pk3 ?_), ?_⟩
  refine DP.p rfl rfl V.assign ?_
  refine DP.nl ?_
  refine AW.ret ?_
  repeat with_reducible first | refine thn_ret ?_ | refine inb_ret ?_
  refine fin (Res.i1 rfl) ?_
  refine ⟨_, (by repeat first | exact List.Sublist.refl _ | apply List.Sublist.cons), rfl, rfl⟩
set_option maxHeartbeats 1600000 in
set_option synthInstance.maxHeartbeats 400000 in
set_option synthInstance.maxSize 100000 in
set_option maxRecDepth 100000 in
theorem bstr1_c (M : Mem) (H : Heap) (b g : Nat) (p : Option Addr) (c : Nat) (s : ByteArray) (hc : c ≠ 0) (hs : 0 < s.size) :
    AC Tryz.prog 44 [.pointer (some ⟨b, 0, none⟩)] M (.row (some ⟨g, 0, none⟩) s.size c 5 1 (Lib.strCells s) :: .blk b (.cells #[.pointer p, .slice (some ⟨g, 0, none⟩) s.size c] 85 (0, 0)) :: H) fun v _ H' => v = .string s ∧ H' = H := by
  refine AC.of (n := 13) Tryz.func44 rfl rfl ?_
  dsimp only [List.replicate, List.cons_append, List.nil_append]
  refine AW.seq ?_
  refine AW.region ?_
  refine st V.assign ?_
  refine sn ?_
  refine AW.seq ?_
  refine AW.regionP mx [0, 1, 2, 3, 5, 6, 7, 8, 9, 4, 10, 11] [[], [0], [0, 1], [0, 1, 2], [0, 1, 2, 3], [], [5], [5, 6], [5, 6, 7], [5, 6, 7, 8], [0, 1, 2, 3, 4, 5, 6, 7, 8, 9], [0, 1, 2, 3, 4, 5, 6, 7, 8, 9, 10]] (by kernel_rfl) ?_
  refine DP.p rfl rfl V.move ?_
  refine DP.p rfl rfl (by first | exact V.nc | exact V.ncF) ?_
  refine DP.p rfl rfl V.faz ?_
  refine DP.lo rfl ?_
  refine DP.p rfl rfl V.move ?_
  refine DP.p rfl rfl (by first | exact V.nc | exact V.ncF) ?_
  refine DP.p rfl rfl V.faz ?_
  refine DP.lo rfl ?_
  refine DP.p rfl rfl V.len ?_
  refine DP.e rfl rfl (S.usd (.inr ⟨⟨_, rfl⟩, hc⟩) ?_)
  refine ⟨(by repeat first | exact pk0 | refine pk1 rfl ?_ | refine pk2 ?_ | refine pk3 ?_), ?_⟩
  refine DP.e rfl rfl (S.us rfl hs ?_)
  refine ⟨(by repeat first | exact pk0 | refine pk1 rfl ?_ | refine pk2 ?_ | refine pk3 ?_), ?_⟩
  refine DP.p rfl rfl V.assign ?_
  refine DP.nl ?_
  refine AW.ret ?_
  repeat with_reducible first | refine thn_ret ?_ | refine inb_ret ?_
  refine fin (Res.i1 rfl) ?_
  refine ⟨_, (by repeat first | exact List.Sublist.refl _ | apply List.Sublist.cons), rfl, rfl⟩
set_option maxHeartbeats 1600000 in
set_option synthInstance.maxHeartbeats 400000 in
set_option synthInstance.maxSize 100000 in
set_option maxRecDepth 100000 in
theorem bstr_c (M : Mem) (H : Heap) (b : Nat) (p A : Option Addr) (c : Nat) (s : ByteArray) (hA : (A = none ∧ c = 0) ↔ s.size = 0) :
    AC Tryz.prog 44 [.pointer (some ⟨b, 0, none⟩)] M (.blk b (.cells #[.pointer p, .slice A s.size c] 85 (0, 0)) :: .row A s.size c 5 1 (Lib.strCells s) :: H) fun v _ H' => v = .string s ∧ H' = H := by
  refine AC.fact ((A = none ∧ c = 0 ∧ s.size = 0) ∨ ∃ g, A = some ⟨g, 0, none⟩ ∧ c ≠ 0 ∧ 0 < s.size) (fun g w hS => rowCase hA (hS.rowA 1 rfl)) fun hcase => ?_
  rcases hcase with ⟨rfl, rfl, hs0⟩ | ⟨g, rfl, hc0, hs0⟩
  · obtain rfl := size0 hs0
    exact AC.sub (List.Sublist.cons_cons _ (List.Sublist.cons _ (List.Sublist.refl _))) (bstr0_c M H b p)
  · exact AC.perm (List.Perm.swap ..) (bstr1_c M H b g p c s hc0 hs0)
end Go.Proofs.YtieaiheejhmbfaaGreatDoor.ML
/- The library's functions in the abstract layer: FormatInt, ParseInt. No conditions. -/
namespace Go.Proofs.YtieaiheejhmbfaaGreatDoor.ML
open Go.RowKit
set_option linter.unusedVariables false
set_option linter.unusedSimpArgs false
/-- What the package's variables hold. -/
def GM (M : Mem) : Prop := (∃ T fz, M 0 = some (.cells (Lib.pow10Tab.map fun z => Value.int .u64 z).toArray T fz)) ∧ (∃ tp p T fz, M 1 = some (.cells #[.iface tp p] T fz)) ∧ (∃ tp p T fz, M 2 = some (.cells #[.iface tp p] T fz))
theorem GM.up {M M' : Mem} [h : LeT M M'] (hg : GM M) : GM M' := by
  obtain ⟨⟨T, fz, h0⟩, ⟨tp, p, T1, f1, h1⟩, ⟨tq, q, T2, f2, h2⟩⟩ := hg
  exact ⟨⟨T, fz, h.out _ _ h0⟩, ⟨tp, p, T1, f1, h.out _ _ h1⟩, ⟨tq, q, T2, f2, h.out _ _ h2⟩⟩
theorem var_of {w : World} {name : String} {g : Nat} {cs : Array Value} {T : TypeId} {fz : Nat × Nat} (hn : Tryz.prog.globalNamed name = some g) (h : w.heap[g]? = some (.cells cs T fz)) : w.var? Tryz.prog name = some cs := by
  simp [World.var?, hn, h]
abbrev itoaS (n : Int) : ByteArray := ⟨(Lib.itoa n).toArray⟩
theorem fmt_c (M : Mem) (H : Heap) (hG : GM M) (n : Int) (h0 : -9223372036854775808 ≤ n) (h1 : n ≤ 9223372036854775807) :
    AC Tryz.prog 74 [.int .i64 n, .int .i64 10] M H fun v _ H' => v = .string (itoaS n) ∧ H' = H := by
  refine AC.calls fun g w hS => ?_
  obtain ⟨⟨T, fz, h2⟩, _⟩ := hG
  refine (Tryz.strconv_FormatInt_10 n h0 h1 w (var_of (g := 0) (by kernel_rfl) (hS.mem _ _ h2))).mono ?_
  rintro e w' ⟨rfl, k, os, rfl⟩
  refine ⟨_, M, H, rfl, .refl M, hS.below ⟨rfl, rfl, rfl, by simp [Go.Sort.grow, World.drewN], fun k hk => ?_⟩, rfl, rfl⟩
  show ((w.drewN _).heap ++ os)[k]? = _
  rw [Array.getElem?_append_left (by exact hk)]; rfl
/-- What ParseInt tells. -/
def PiOk (s : ByteArray) (n : Int) (e : Value) : Prop := (Lib.parseIntB 64 s.data.toList = .ok n ∧ e = .nilIface) ∨ ((∀ v, Lib.parseIntB 64 s.data.toList ≠ .ok v) ∧ ∃ t N, e = .iface t (.pointer (some ⟨N, 0, none⟩)))
theorem pint_c (M : Mem) (H : Heap) (hG : GM M) (s : ByteArray) (hs : s.size ≤ 281474976710656) :
    AC Tryz.prog 103 [.string s, .int .i64 10, .int .i64 64] M H fun v _ H' => (∃ n e, v = .tuple #[.int .i64 n, e] ∧ PiOk s n e) ∧ H' = H := by
  refine AC.calls fun g w hS => ?_
  obtain ⟨_, ⟨tp, p, T1, f1, h1⟩, ⟨tq, q, T2, f2, h2⟩⟩ := hG
  by_cases hr : Lib.parseIntB 64 s.data.toList = .range
  · refine (Tryz.strconv_ParseInt_10_at64_range_var s hs hr tq q w (var_of (g := 2) (by kernel_rfl) (hS.mem _ _ h2))).mono ?_
    rintro e w' ⟨N, rfl, hN, hc, hb⟩
    exact ⟨_, M, H, rfl, .refl M, hS.below hb, ⟨_, _, rfl, .inr ⟨fun v hv => (by rw [hr] at hv; cases hv), _, N, rfl⟩⟩, rfl⟩
  · by_cases ho : ∃ v, Lib.parseIntB 64 s.data.toList = .ok v
    · obtain ⟨v, hv⟩ := ho
      refine (Tryz.strconv_ParseInt_10_at64_ok s (by omega) v hv w).mono ?_
      rintro e w' ⟨rfl, hw⟩
      refine ⟨_, M, H, rfl, .refl M, ?_, ⟨_, _, rfl, .inl ⟨hv, rfl⟩⟩, rfl⟩
      rcases hw with rfl | ⟨t, rfl⟩
      · exact hS
      · exact hS.below (Lib.below_freeze (((Below.refl _ w).trans (Below.drew (Below.refl _ w))).alloc (Nat.le_refl _) _) (Nat.le_refl _) _)
    · refine (Tryz.strconv_ParseInt_10_at64_syntax_var s hs (fun v hv => ho ⟨v, hv⟩) hr tp p w (var_of (g := 1) (by kernel_rfl) (hS.mem _ _ h1))).mono ?_
      rintro e w' ⟨N, rfl, hN, hc, hb⟩
      exact ⟨_, M, H, rfl, .refl M, hS.below hb, ⟨_, _, rfl, .inr ⟨fun v hv => ho ⟨v, hv⟩, _, N, rfl⟩⟩, rfl⟩
end Go.Proofs.YtieaiheejhmbfaaGreatDoor.ML
/- The plain laws of the texts of values. No conditions. -/
namespace Go.Proofs.YtieaiheejhmbfaaGreatDoor.ML
open Go.RowKit
set_option linter.unusedVariables false
set_option linter.unusedSimpArgs false
inductive TyV (d : List DT) : Int → VT → Prop
  | int {n : Int} : TyV d 0 (.mk n 0 [])
  | con {p k : Nat} {l : List VT} (hp : p < d.length) (hk : k < d[p].cons.length) (hl : l.length = d[p].cons[k].fields.length) (h : ∀ i (h1 : i < l.length) (h2 : i < d[p].cons[k].fields.length), TyV d (d[p].cons[k].fields[i]) l[i]) : TyV d ((p : Int) + 1) (.mk 0 k l)
inductive RgV : VT → Prop
  | mk {n c : Int} {l : List VT} (h0 : -9223372036854775808 ≤ n) (h1 : n ≤ 9223372036854775807) (hl : ∀ x ∈ l, RgV x) : RgV (.mk n c l)
theorem RgV.num {v : VT} (h : RgV v) : -9223372036854775808 ≤ v.num ∧ v.num ≤ 9223372036854775807 := by cases h with | mk h0 h1 _ => exact ⟨h0, h1⟩
theorem RgV.mem {v : VT} (h : RgV v) {x : VT} (hx : x ∈ v.args) : RgV x := by cases h with | mk _ _ hl => exact hl x hx
theorem TyV.intE {d : List DT} {v : VT} (h : TyV d 0 v) : v.con = 0 ∧ v.args = [] := by
  generalize ht : (0 : Int) = t at h
  cases h with
  | int => exact ⟨rfl, rfl⟩
  | con hp => omega
theorem TyV.conE {d : List DT} {t : Int} {v : VT} (h : TyV d t v) (ht : t ≠ 0) : ∃ (p k : Nat) (hp : p < d.length) (hk : k < d[p].cons.length), t = (p : Int) + 1 ∧ v.num = 0 ∧ v.con = k ∧ v.args.length = d[p].cons[k].fields.length ∧ ∀ i (h1 : i < v.args.length) (h2 : i < d[p].cons[k].fields.length), TyV d (d[p].cons[k].fields[i]) v.args[i] := by
  cases h with
  | int => exact absurd rfl ht
  | @con p k l hp hk hl h => exact ⟨p, k, hp, hk, rfl, rfl, rfl, hl, h⟩
theorem tyV_of {σ : Type} (d : List DT) (hT : TypedP d) (f : σ → Int → Int → σ) : ∀ (z : Nat) (t : Int) (v : VT) (n : Nat) (s : σ), SizeOf.sizeOf v < z → 0 ≤ t ∧ t ≤ d.length → (wV d f t v n s).1 = 0 → TyV d t v
  | 0, _, _, _, _, hz, _, _ => by omega
  | z + 1, t, .mk num con args, n, s, hz, ht, h => by
    rw [wV] at h
    by_cases hb : badV d t (.mk num con args) = true
    · rw [if_pos hb] at h; simp at h
    rw [if_neg hb] at h
    by_cases h0 : t = 0
    · subst h0
      have h3 : ¬ (con ≠ 0 ∨ 0 < args.length) := fun hh => hb (by unfold badV; rw [if_pos rfl]; exact decide_eq_true hh)
      obtain rfl : con = 0 := by omega
      obtain rfl := List.eq_nil_of_length_eq_zero (show args.length = 0 by omega)
      exact .int
    rw [if_neg h0] at h
    by_cases h18 : 0 < args.length ∧ n = 65536
    · rw [if_pos h18] at h; simp at h
    rw [if_neg h18] at h
    obtain ⟨p, rfl⟩ : ∃ p : Nat, t = (p : Int) + 1 := ⟨(t - 1).toNat, by omega⟩
    have hp : p < d.length := by omega
    have hb' : ¬ (num ≠ 0 ∨ con < 0 ∨ (d[p].cons.length : Int) ≤ con ∨ args.length ≠ (d[p].cons.getD con.toNat ⟨⟨#[]⟩, []⟩).fields.length) := fun hh => hb (by rw [badV_at d p hp]; exact decide_eq_true hh)
    obtain rfl : num = 0 := by omega
    have h1 : 0 ≤ con := by omega
    have h2 : con < (d[p].cons.length : Int) := by omega
    have h3 : args.length = (d[p].cons.getD con.toNat ⟨⟨#[]⟩, []⟩).fields.length := by omega
    clear hb'
    obtain ⟨k, rfl⟩ : ∃ k : Nat, con = (k : Int) := ⟨con.toNat, by omega⟩
    have hk : k < d[p].cons.length := by omega
    have hl : args.length = d[p].cons[k].fields.length := by simpa [List.getD, hk] using h3
    rw [fldV_at d p hp (.mk 0 k args) k rfl hk] at h
    have key : ∀ (m : Nat) (n : Nat) (s : σ), m ≤ args.length → (wL d f (d[p].cons[k].fields.drop m) (args.drop m) n s).1 = 0 → ∀ i (h1 : i < args.length) (h2 : i < d[p].cons[k].fields.length), m ≤ i → TyV d (d[p].cons[k].fields[i]) args[i] := by
      intro m
      induction hm : args.length - m generalizing m with
      | zero => intro n s hme _ i h1 _ hi; omega
      | succ q ih =>
        intro n s hme hw i h1 h2 hi
        have hma : m < args.length := by omega
        rw [wL_at d f _ _ n s m hma (by omega)] at hw
        split at hw
        · rename_i hne; exact absurd hw hne
        rename_i hne
        have hz0 : (wV d f d[p].cons[k].fields[m] args[m] n s).1 = 0 := by simpa using hne
        rcases Nat.lt_or_ge m i with hlt | hge
        · exact ih (m + 1) (by omega) _ _ (by omega) hw i h1 h2 (by omega)
        · obtain rfl : m = i := by omega
          exact tyV_of d hT f z _ _ n s (by have := List.sizeOf_lt_of_mem (List.getElem_mem (l := args) hma); simp at hz; omega) (hT p hp k hk _ (List.getElem_mem (by omega))) hz0
    exact .con hp hk hl fun i h1 h2 => key 0 _ _ (Nat.zero_le _) h i h1 h2 (Nat.zero_le _)
abbrev bSp : ByteArray := ⟨#[32]⟩
abbrev bLp : ByteArray := ⟨#[40]⟩
abbrev bRp : ByteArray := ⟨#[41]⟩
mutual
def txV (d : List DT) : Int → VT → ByteArray
  | t, .mk n c l => if t = 0 then itoaS n else ((consF d t).getD c.toNat ⟨⟨#[]⟩, []⟩).name ++ txL d (fldV d t (.mk n c l)) l
def txL (d : List DT) : List Int → List VT → ByteArray
  | _, [] => ⟨#[]⟩
  | ts, v :: vs => bSp ++ (if v.args.length = 0 ∧ 0 ≤ v.num then txV d (ts.headD 0) v else bLp ++ txV d (ts.headD 0) v ++ bRp) ++ txL d ts.tail vs
end
theorem txV_0 (d : List DT) (v : VT) : txV d 0 v = itoaS v.num := by cases v; rw [txV]; rfl
theorem txV_c (d : List DT) (p : Nat) (hp : p < d.length) (v : VT) (k : Nat) (hk : v.con = k) (hk' : k < d[p].cons.length) : txV d ((p : Int) + 1) v = d[p].cons[k].name ++ txL d d[p].cons[k].fields v.args := by
  have h1 := fldV_at d p hp v k hk hk'
  cases v with
  | mk n c l =>
    rw [txV, if_neg (by omega), h1, consF_at d p hp]
    simp only [VT.con, VT.args] at hk ⊢
    rw [hk]
    simp [List.getD, hk']
theorem txL_at (d : List DT) (ts : List Int) (vs : List VT) (i : Nat) (h : i < vs.length) (h' : i < ts.length) : txL d (ts.drop i) (vs.drop i) = bSp ++ (if vs[i].args.length = 0 ∧ 0 ≤ vs[i].num then txV d ts[i] vs[i] else bLp ++ txV d ts[i] vs[i] ++ bRp) ++ txL d (ts.drop (i + 1)) (vs.drop (i + 1)) := by
  rw [List.drop_eq_getElem_cons h, List.drop_eq_getElem_cons h', txL]; rfl
theorem bi_app {A A' : Option Addr} {c c' n m : Nat} (h : (A = none ∧ c = 0) ↔ n = 0) (h' : (A' = none ∧ c' = 0) ↔ (A = none ∧ c = 0) ∧ m = 0) : (A' = none ∧ c' = 0) ↔ n + m = 0 := by rw [h', h]; omega
theorem ba_nil (s : ByteArray) : s ++ (⟨#[]⟩ : ByteArray) = s := by
  apply ByteArray.ext
  rw [ByteArray.data_append]; simp
theorem nil_ba (s : ByteArray) : (⟨#[]⟩ : ByteArray) ++ s = s := by
  apply ByteArray.ext
  rw [ByteArray.data_append]; simp
noncomputable def textF (d : List DT) (t : Int) (v : VT) : ByteArray × Int :=
  if (cellsF d t v).2 ≠ 0 then (⟨#[]⟩, (cellsF d t v).2) else if 65536 < (txV d t v).size then (⟨#[]⟩, 5) else (txV d t v, 0)
theorem cells_ty {d : List DT} {t : Int} {v : VT} (h : (cellsF d t v).2 = 0) : TyV d t v := by
  have h1 := cells_ok h
  refine tyV_of d h1.1 (fun (_ : Unit) _ _ => ()) (SizeOf.sizeOf v + 1) t v 0 () (by omega) ⟨h1.2.1, h1.2.2.1⟩ ?_
  unfold cellsF at h
  split at h
  · rename_i h2; exact absurd h h2
  split at h
  · rename_i h2; exact absurd h h2
  · rename_i h2; simpa using h2
end Go.Proofs.YtieaiheejhmbfaaGreatDoor.ML
/- Walks of functions of the program, in the abstract layer. No conditions. -/
namespace Go.Proofs.YtieaiheejhmbfaaGreatDoor.ML
open Go.RowKit
set_option linter.unusedVariables false
set_option linter.unusedSimpArgs false
set_option maxHeartbeats 1600000 in
set_option synthInstance.maxHeartbeats 400000 in
set_option synthInstance.maxSize 100000 in
set_option maxRecDepth 100000 in
theorem write_c (d : List DT) (hT : TypedP d) : ∀ (z : Nat) (v : VT), SizeOf.sizeOf v < z → ∀ (t : Int), TyV d t v → RgV v → ∀ (s : ByteArray), s.size + (txV d t v).size ≤ 1000000000 → ∀ (M : Mem) (H : Heap) (b : Nat) (p A : Option Addr) (c : Nat) (Ad : Option Addr) (cd : Nat) (Av : Option Addr) (cv : Nat),
    GM M → (p = none ∨ p = some ⟨b, 0, none⟩) → ((A = none ∧ c = 0) ↔ s.size = 0) → RdS 2 (RdD M) Ad cd d → VV M Av cv v →
    AC Tryz.prog 42 [.pointer (some ⟨b, 0, none⟩), .slice Ad d.length cd, .int .i64 t, .agg #[.int .i64 v.num, .int .i64 v.con, .slice Av v.args.length cv]] M (.blk b (.cells #[.pointer p, .slice A s.size c] 85 (0, 0)) :: .row A s.size c 5 1 (Lib.strCells s) :: H) fun r _ H' => r = .tuple #[] ∧ ∃ A' c', ((A' = none ∧ c' = 0) ↔ (s ++ txV d t v).size = 0) ∧ H' = .blk b (.cells #[.pointer (some ⟨b, 0, none⟩), .slice A' (s ++ txV d t v).size c'] 85 (0, 0)) :: .row A' (s ++ txV d t v).size c' 5 1 (Lib.strCells (s ++ txV d t v)) :: H
  | 0, _, hz => by omega
  | z + 1, v, hz => by
    intro t hty hrg s hs M H b p A c Ad cd Av cv hGM hp hA hd hv
    have hbd := hd.bd
    have hba : v.args.length ≤ 140737488355328 := RdS.bd hv
    refine AC.of (n := 70) Tryz.func42 rfl rfl ?_
    dsimp only [List.replicate, List.cons_append, List.nil_append]
    refine AW.seq ?_
    refine AW.region ?_
    refine se (S.boxM ?_); intro b7 M7 i7 j7
    refine sn ?_
    refine AW.seq ?_
    refine AW.seq ?_
    refine AW.region ?_
    refine st V.move ?_
    refine st V.eql ?_
    refine sn ?_
    refine cond (fun h1 => ?_) (fun h1 => ?_)
    ·
      have k1 := bp h1
      subst k1
      have htx := txV_0 d v
      rw [htx] at hs
      refine AW.seq ?_
      refine AW.region ?_
      refine st V.move ?_
      refine st V.fa0 ?_
      first | refine st V.ld ?_ | refine sq V.lo ?_
      refine se (S.call ?_)
      refine (fmt_c _ _ hGM.up v.num hrg.num.1 hrg.num.2).use ?_
      rintro v N G iz ⟨rfl, hG⟩
      obtain rfl := hG.symm
      refine se (S.call ?_)
      refine (bws_c _ H b _ A c hp s (itoaS v.num) (by omega)).use ?_
      rintro v2 N2 G2 iz2 ⟨rfl, A2, c2, hA2, hG⟩
      subst hG
      have hA2 := bi_app hA hA2
      rw [← ByteArray.size_append] at hA2
      refine sn ?_
      refine AW.ret ?_
      repeat with_reducible first | refine thn_ret ?_ | refine inb_ret ?_
      refine fin (Res.zero rfl) ?_
      refine ⟨_, List.Sublist.refl _, rfl, A2, c2, ?_, ?_⟩ <;> rw [htx]
      exact hA2
    ·
      have k1 := bp h1
      refine AW.skip ?_
      refine AW.seq ?_
      obtain ⟨q, k, hq, hk, rfl, e1, e2, e3, e4⟩ := hty.conE k1
      have htx := txV_c d q hq v k e2 hk
      obtain ⟨b8, o8, hA8, i0, ib0, A8, c8, i1, i2⟩ := (hd.upD (M' := M7)).at q hq
      obtain ⟨b9, o9, hA9, j0, jb, A9, c9, j1, j2⟩ := i2.at k hk
      have hb9 := j2.bd
      have hb8 := i2.bd
      have hsz := congrArg ByteArray.size htx
      rw [ByteArray.size_append] at hsz
      refine AW.regionD mx true [0, 1, 2, 3, 4, 5, 6, 7, 8, 9, 10, 11] [[], [], [1], [0, 1, 2], [0, 1, 2, 3], [0, 1, 2, 3, 4], [], [6], [0, 1, 2, 3, 4, 5, 6, 7], [0, 1, 2, 3, 4, 5, 6, 7, 8], [], [0, 1, 2, 3, 4, 5, 6, 7, 8, 9, 10]] (by kernel_rfl) ?_
      refine D.p rfl rfl V.move ?_
      refine D.p rfl rfl V.move ?_
      refine D.p rfl rfl (V.sub64 (by omega)) ?_
      refine D.p rfl rfl (V.ib q (by omega) hq hA8) ?_
      refine D.p rfl rfl V.fa ?_
      refine D.p rfl rfl V.ld ?_
      refine D.p rfl rfl V.faz ?_
      refine D.p rfl rfl V.ld ?_
      refine D.p rfl rfl (V.ib k (by omega) hk hA9) ?_
      refine D.p rfl rfl V.ldA ?_
      refine D.e rfl rfl (S.alloc ?_); intro b8
      refine D.e rfl rfl (S.storeA rfl ?_)
      refine D.nl ?_
      refine AW.seq ?_
      refine AW.fz 0 fun Mv iv jv => ?_
      refine AW.region ?_
      refine st V.move ?_
      refine st V.fa0 ?_
      first | refine st V.ld ?_ | refine sq V.lo ?_
      refine se (S.call ?_)
      refine (bws_c _ H b _ A c hp s d[q].cons[k].name (by omega)).use ?_
      rintro v4 N4 G4 iz4 ⟨rfl, A4, c4, hA4, hG⟩
      subst hG
      have hA4 := bi_app hA hA4
      rw [← ByteArray.size_append] at hA4
      refine sn ?_
      refine AW.seq ?_
      refine AW.region ?_
      refine st V.faz ?_
      first | refine st V.ld ?_ | refine sq V.lo ?_
      refine st V.len ?_
      refine st V.move ?_
      refine sn ?_
      refine AW.block ?_
      refine AW.loopL [35] (9 :: 10 :: 36 :: 37 :: 38 :: 39 :: 40 :: 41 :: 42 :: 43 :: 44 :: 45 :: 46 :: 47 :: 48 :: 49 :: 50 :: 51 :: 52 :: 53 :: 54 :: 55 :: 56 :: 57 :: 58 :: 59 :: 60 :: 61 :: 62 :: 63 :: 64 :: 65 :: 66 :: 67 :: 68 :: 69 :: 70 :: 71 :: 72 :: 73 :: []) (fun m vs M' H' => ∃ (i : Nat) (cur : ByteArray) (A' : Option Addr) (c' : Nat), vs = [.int .i64 (i : Int)] ∧ H' = .blk b (.cells #[.pointer (some ⟨b, 0, none⟩), .slice A' cur.size c'] 85 (0, 0)) :: .row A' cur.size c' 5 1 (Lib.strCells cur) :: H ∧ i + m = v.args.length ∧ ((A' = none ∧ c' = 0) ↔ cur.size = 0) ∧ cur ++ txL d (d[q].cons[k].fields.drop i) (v.args.drop i) = s ++ txV d ((q : Int) + 1) v) (v.args.length) (⟨0, _, A4, c4, rfl, rfl, by omega, hA4, by rw [htx, ByteArray.append_assoc]; rfl⟩) ?_
      intro m Ml Hl iL u35 hI u9 u10 u36 u37 u38 u39 u40 u41 u42 u43 u44 u45 u46 u47 u48 u49 u50 u51 u52 u53 u54 u55 u56 u57 u58 u59 u60 u61 u62 u63 u64 u65 u66 u67 u68 u69 u70 u71 u72 u73
      obtain ⟨i, cur, A', c', hv', hH, hi, hA', hw⟩ := hI
      subst hH
      cases hv'
      refine sa ?_
      refine AW.seq ?_
      refine AW.region ?_
      refine st V.lss ?_
      refine sn ?_
      refine AW.seq ?_
      refine cond (fun h2 => ?_) (fun h2 => ?_)
      ·
        have k2 := bp h2
        refine AW.skip ?_
        refine AW.seq ?_
        refine AW.block ?_
        refine AW.seq ?_
        have z6 : i < v.args.length := by omega
        obtain ⟨ba, oa, hAa, ea⟩ := (VV.up (M' := Ml) hv).at i z6
        obtain ⟨Ax, cx, x0, x1, x2, xs⟩ := ea.get
        obtain ⟨bw, ow, hAw, ew⟩ := (j2.upI (M' := Ml)).at i (by omega)
        have ew : Mk Ml bw (ow + i * 1) (.int .i64 d[q].cons[k].fields[i]) := ew
        have y1 : bSp.size = 1 := rfl
        have y2 : bLp.size = 1 := rfl
        have y3 : bRp.size = 1 := rfl
        refine AW.region ?_
        refine st V.move ?_
        refine st (V.ib i rfl z6 hAa) ?_
        first | refine st V.ldA ?_ | refine sq V.loA ?_
        refine se (S.alloc ?_); intro b10
        refine st V.assign ?_
        refine se (S.storeA rfl ?_)
        refine sn ?_
        refine AW.seq ?_
        refine AW.fz 0 fun Mw iw jw => ?_
        have hat := txL_at d d[q].cons[k].fields v.args i z6 (by omega)
        have hcs := congrArg ByteArray.size hw
        refine AW.region ?_
        refine st V.move ?_
        refine se (S.call ?_)
        refine (bws_c _ H b _ A' c' (.inr rfl) cur bSp (by rw [hat] at hcs; simp only [ByteArray.size_append] at hcs; omega)).use ?_
        rintro vw' Nw' Gw' izw' ⟨rfl, Aw', cw', hAw', hG⟩
        subst hG
        have hAw' := bi_app hA' hAw'
        rw [← ByteArray.size_append] at hAw'
        refine sn ?_
        refine AW.seq ?_
        refine AW.seq ?_
        refine AW.region ?_
        refine st V.faz ?_
        first | refine st V.ld ?_ | refine sq V.lo ?_
        refine st V.len ?_
        refine st V.eql ?_
        refine st V.move ?_
        refine onoff false rfl rfl (fun h3 => ?_) (fun h3 => ?_)
        ·
          have k3 := bp h3
          refine st V.fa0 ?_
          refine on rfl h3 ?_
          first | refine st V.ld ?_ | refine sq V.lo ?_
          refine on rfl h3 ?_
          refine st V.geq ?_
          refine st (V.pT h3) ?_
          refine sn ?_
          refine cond (fun h4 => ?_) (fun h4 => ?_)
          ·
            have k4 := bp h4
            refine AW.seq ?_
            rw [if_pos ⟨by omega, k4⟩] at hat
            rw [hat] at hcs
            simp only [ByteArray.size_append] at hcs
            refine AW.regionD mx true [0, 1, 2, 3, 4, 5, 6, 7, 8] [[], [], [], [2], [], [2, 3, 4], [2, 3, 4, 5], [], [0, 1, 2, 3, 4, 5, 6, 7]] (by kernel_rfl) ?_
            refine D.p rfl rfl V.move ?_
            refine D.p rfl rfl V.move ?_
            refine D.p rfl rfl V.faz ?_
            refine D.p rfl rfl V.ld ?_
            refine D.p rfl rfl V.move ?_
            refine D.p rfl rfl (V.ib i rfl (by omega) hAw) ?_
            refine D.p rfl rfl V.ld ?_
            refine D.p rfl rfl V.ldA ?_
            refine D.e rfl rfl (S.call ?_)
            refine (write_c d hT z v.args[i] (by have := List.sizeOf_lt_of_mem (List.getElem_mem z6); cases v; simp [VT.args] at *; omega) _ (e4 i z6 (by omega)) (hrg.mem (List.getElem_mem z6)) (cur ++ bSp) (by simp only [ByteArray.size_append]; omega) _ H b _ Aw' cw' Ad cd Ax cx hGM.up (.inr rfl) hAw' hd.upD (VV.up (x := v.args[i]) xs)).use ?_
            rintro v10 N10 G10 iz10 ⟨rfl, A10, c10, hA10, hG⟩
            subst hG
            refine D.nl ?_
            refine AW.exit ?_
            repeat with_reducible refine thn_exit ?_
            refine inb_exit ?_
            refine AW.region ?_
            refine st (V.add64 (by omega)) ?_
            refine st V.move ?_
            refine sn ?_
            repeat with_reducible refine inb_normal ?_
            refine thn_normal ?_
            refine rnd (m - 1) _ (by omega) (List.Sublist.refl _) ⟨i + 1, _, A10, c10, by simp, rfl, by omega, hA10, ?_⟩
            rw [← hw, hat]; simp only [ByteArray.append_assoc]
          ·
            have k4 := bp h4
            refine AW.skip ?_
            refine AW.seq ?_
            rw [if_neg (by omega)] at hat
            rw [hat] at hcs
            simp only [ByteArray.size_append] at hcs
            refine AW.region ?_
            refine st V.move ?_
            refine se (S.call ?_)
            refine (bws_c _ H b _ Aw' cw' (.inr rfl) (cur ++ bSp) bLp (by simp only [ByteArray.size_append]; omega)).use ?_
            rintro vl Nl Gl izl ⟨rfl, Al, cl, hAl, hG⟩
            subst hG
            have hAl := bi_app hAw' hAl
            rw [← ByteArray.size_append] at hAl
            refine sn ?_
            refine AW.seq ?_
            refine AW.regionD mx true [0, 1, 2, 3, 4, 5, 6, 7, 8] [[], [], [], [2], [], [2, 3, 4], [2, 3, 4, 5], [], [0, 1, 2, 3, 4, 5, 6, 7]] (by kernel_rfl) ?_
            refine D.p rfl rfl V.move ?_
            refine D.p rfl rfl V.move ?_
            refine D.p rfl rfl V.faz ?_
            refine D.p rfl rfl V.ld ?_
            refine D.p rfl rfl V.move ?_
            refine D.p rfl rfl (V.ib i rfl (by omega) hAw) ?_
            refine D.p rfl rfl V.ld ?_
            refine D.p rfl rfl V.ldA ?_
            refine D.e rfl rfl (S.call ?_)
            refine (write_c d hT z v.args[i] (by have := List.sizeOf_lt_of_mem (List.getElem_mem z6); cases v; simp [VT.args] at *; omega) _ (e4 i z6 (by omega)) (hrg.mem (List.getElem_mem z6)) (cur ++ bSp ++ bLp) (by simp only [ByteArray.size_append]; omega) _ H b _ Al cl Ad cd Ax cx hGM.up (.inr rfl) hAl hd.upD (VV.up (x := v.args[i]) xs)).use ?_
            rintro v10 N10 G10 iz10 ⟨rfl, A10, c10, hA10, hG⟩
            subst hG
            refine D.nl ?_
            refine AW.region ?_
            refine st V.move ?_
            refine se (S.call ?_)
            refine (bws_c _ H b _ A10 c10 (.inr rfl) (cur ++ bSp ++ bLp ++ txV d d[q].cons[k].fields[i] v.args[i]) bRp (by simp only [ByteArray.size_append]; omega)).use ?_
            rintro vr Nr Gr izr ⟨rfl, Ar, cr, hAr, hG⟩
            subst hG
            have hAr := bi_app hA10 hAr
            rw [← ByteArray.size_append] at hAr
            refine sn ?_
            refine AW.region ?_
            refine st (V.add64 (by omega)) ?_
            refine st V.move ?_
            refine sn ?_
            repeat with_reducible refine inb_normal ?_
            refine thn_normal ?_
            refine rnd (m - 1) _ (by omega) (List.Sublist.refl _) ⟨i + 1, _, Ar, cr, by simp, rfl, by omega, hAr, ?_⟩
            rw [← hw, hat]; simp only [ByteArray.append_assoc]
        ·
          have k3 := bp h3
          refine off rfl h3 ?_
          refine off rfl h3 ?_
          refine st (V.pF h3) ?_
          refine sn ?_
          refine cond (fun h => by cases h) (fun _ => ?_)
          refine AW.skip ?_
          refine AW.seq ?_
          rw [if_neg (by omega)] at hat
          rw [hat] at hcs
          simp only [ByteArray.size_append] at hcs
          refine AW.region ?_
          refine st V.move ?_
          refine se (S.call ?_)
          refine (bws_c _ H b _ Aw' cw' (.inr rfl) (cur ++ bSp) bLp (by simp only [ByteArray.size_append]; omega)).use ?_
          rintro vl Nl Gl izl ⟨rfl, Al, cl, hAl, hG⟩
          subst hG
          have hAl := bi_app hAw' hAl
          rw [← ByteArray.size_append] at hAl
          refine sn ?_
          refine AW.seq ?_
          refine AW.regionD mx true [0, 1, 2, 3, 4, 5, 6, 7, 8] [[], [], [], [2], [], [2, 3, 4], [2, 3, 4, 5], [], [0, 1, 2, 3, 4, 5, 6, 7]] (by kernel_rfl) ?_
          refine D.p rfl rfl V.move ?_
          refine D.p rfl rfl V.move ?_
          refine D.p rfl rfl V.faz ?_
          refine D.p rfl rfl V.ld ?_
          refine D.p rfl rfl V.move ?_
          refine D.p rfl rfl (V.ib i rfl (by omega) hAw) ?_
          refine D.p rfl rfl V.ld ?_
          refine D.p rfl rfl V.ldA ?_
          refine D.e rfl rfl (S.call ?_)
          refine (write_c d hT z v.args[i] (by have := List.sizeOf_lt_of_mem (List.getElem_mem z6); cases v; simp [VT.args] at *; omega) _ (e4 i z6 (by omega)) (hrg.mem (List.getElem_mem z6)) (cur ++ bSp ++ bLp) (by simp only [ByteArray.size_append]; omega) _ H b _ Al cl Ad cd Ax cx hGM.up (.inr rfl) hAl hd.upD (VV.up (x := v.args[i]) xs)).use ?_
          rintro v10 N10 G10 iz10 ⟨rfl, A10, c10, hA10, hG⟩
          subst hG
          refine D.nl ?_
          refine AW.region ?_
          refine st V.move ?_
          refine se (S.call ?_)
          refine (bws_c _ H b _ A10 c10 (.inr rfl) (cur ++ bSp ++ bLp ++ txV d d[q].cons[k].fields[i] v.args[i]) bRp (by simp only [ByteArray.size_append]; omega)).use ?_
          rintro vr Nr Gr izr ⟨rfl, Ar, cr, hAr, hG⟩
          subst hG
          have hAr := bi_app hA10 hAr
          rw [← ByteArray.size_append] at hAr
          refine sn ?_
          refine AW.region ?_
          refine st (V.add64 (by omega)) ?_
          refine st V.move ?_
          refine sn ?_
          repeat with_reducible refine inb_normal ?_
          refine thn_normal ?_
          refine rnd (m - 1) _ (by omega) (List.Sublist.refl _) ⟨i + 1, _, Ar, cr, by simp, rfl, by omega, hAr, ?_⟩
          rw [← hw, hat]; simp only [ByteArray.append_assoc]
      ·
        have k2 := bp h2
        refine AW.exit ?_
        repeat with_reducible refine thn_exit ?_
        refine inb_exit ?_
        repeat with_reducible refine inb_normal ?_
        refine fin0 (Res.zero rfl) ?_
        have hc : cur = s ++ txV d ((q : Int) + 1) v := by rw [← hw, List.drop_eq_nil_of_le (show v.args.length ≤ i by omega), txL, ba_nil]
        subst hc
        exact ⟨_, (by repeat first | exact List.Sublist.refl _ | apply List.Sublist.cons), rfl, A', c', hA', rfl⟩
set_option maxHeartbeats 1600000 in
set_option synthInstance.maxHeartbeats 400000 in
set_option synthInstance.maxSize 100000 in
set_option maxRecDepth 100000 in
theorem text_c (M : Mem) (H : Heap) (hGM : GM M) (Ad : Option Addr) (cd : Nat) (d : List DT) (hd : RdS 2 (RdD M) Ad cd d) (t : Int) (A : Option Addr) (c : Nat) (v : VT) (hv : VV M A c v) (hrg : RgV v) (hb : (cellsF d t v).2 = 0 → (txV d t v).size ≤ 1000000000) :
    AC Tryz.prog 18 [.slice Ad d.length cd, .int .i64 t, .agg #[.int .i64 v.num, .int .i64 v.con, .slice A v.args.length c]] M H fun r _ H' => r = .tuple #[.string (textF d t v).1, .int .i64 (textF d t v).2] ∧ H' = H := by
  refine AC.of (n := 21) Tryz.func18 rfl rfl ?_
  dsimp only [List.replicate, List.cons_append, List.nil_append]
  refine AW.seq ?_
  refine AW.region ?_
  refine se (S.boxM ?_); intro b5 M5 i5 j5
  refine st V.assign ?_
  refine st V.assign ?_
  refine sn ?_
  refine AW.seq ?_
  refine AW.seq ?_
  refine AW.region ?_
  refine st V.move ?_
  refine st V.move ?_
  first | refine st V.ldA ?_ | refine sq V.loA ?_
  refine se (S.call ?_)
  refine (vcheck_c _ _ Ad cd d hd.upD t A c v (VV.up hv)).use ?_
  rintro v N G iz ⟨rfl, hG⟩
  obtain rfl := hG.symm
  refine st V.assign ?_
  refine sn ?_
  refine AW.seq ?_
  refine AW.region ?_
  refine st V.move ?_
  refine st V.neq ?_
  refine sn ?_
  refine cond (fun h1 => ?_) (fun h1 => ?_)
  ·
    have k1 := bp h1
    refine AW.seq ?_
    refine AW.region ?_
    refine st V.move ?_
    refine st V.assign ?_
    refine st V.assign ?_
    refine sn ?_
    refine AW.ret ?_
    repeat with_reducible first | refine thn_ret ?_ | refine inb_ret ?_
    refine fin (Res.i2 rfl) ?_
    exact ⟨_, (by repeat first | exact List.Sublist.refl _ | apply List.Sublist.cons), by rw [textF, if_pos k1], rfl⟩
  ·
    have k1 := bp h1
    refine AW.skip ?_
    refine AW.seq ?_
    refine AW.region ?_
    refine se (S.alloc ?_); intro b9
    refine sn ?_
    refine AW.seq ?_
    have hty := cells_ty k1
    have hck := cells_ok k1
    have hb := hb k1
    refine AW.row0 5 1 ?_
    refine AW.front 1 ?_
    refine AW.region ?_
    refine st V.move ?_
    refine st V.move ?_
    first | refine st V.ldA ?_ | refine sq V.loA ?_
    refine se (S.call ?_)
    refine (write_c d hck.1 (SizeOf.sizeOf v + 1) v (by omega) t hty hrg ⟨#[]⟩ (by rw [show (ByteArray.mk #[]).size = 0 from rfl]; omega) _ H b9 none none 0 Ad cd A c hGM.up (.inl rfl) ⟨fun _ => rfl, fun _ => ⟨rfl, rfl⟩⟩ hd.upD (VV.up hv)).use ?_
    rintro v5 N5 G5 iz5 ⟨rfl, A5, c5, hA5, hG⟩
    subst hG
    rw [nil_ba] at hA5 ⊢
    refine sn ?_
    refine AW.seq ?_
    refine AW.seq ?_
    refine AW.region ?_
    refine se (S.call ?_)
    refine (blen_c _ _ b9 _ A5 _ c5).use ?_
    rintro v6 N6 G6 iz6 ⟨rfl, hG⟩
    obtain rfl := hG.symm
    refine st V.gtr ?_
    refine sn ?_
    refine cond (fun h2 => ?_) (fun h2 => ?_)
    ·
      have k2 := bp h2
      refine AW.seq ?_
      refine AW.region ?_
      refine st V.assign ?_
      refine st V.assign ?_
      refine sn ?_
      refine AW.ret ?_
      repeat with_reducible first | refine thn_ret ?_ | refine inb_ret ?_
      refine fin (Res.i2 rfl) ?_
      refine ⟨_, (by repeat first | exact List.Sublist.refl _ | apply List.Sublist.cons), by rw [textF, if_neg (fun h => h k1), if_pos (by omega)], rfl⟩
    ·
      have k2 := bp h2
      refine AW.skip ?_
      refine AW.seq ?_
      refine AW.region ?_
      refine se (S.call ?_)
      refine (bstr_c _ H b9 _ A5 c5 _ hA5).use ?_
      rintro v8 N8 G8 iz8 ⟨rfl, hG⟩
      subst hG
      refine st V.assign ?_
      refine st V.assign ?_
      refine sn ?_
      refine AW.ret ?_
      repeat with_reducible first | refine thn_ret ?_ | refine inb_ret ?_
      refine fin (Res.i2 rfl) ?_
      exact ⟨_, (by repeat first | exact List.Sublist.refl _ | apply List.Sublist.cons), by rw [textF, if_neg (fun h => h k1), if_neg (by omega)], rfl⟩
end Go.Proofs.YtieaiheejhmbfaaGreatDoor.ML
/- Terms in memory; the plain laws of reading. No conditions. -/
namespace Go.Proofs.YtieaiheejhmbfaaGreatDoor.ML
open Go.RowKit
set_option linter.unusedVariables false
set_option linter.unusedSimpArgs false
/-! ### Terms -/
inductive TT where
  | mk (name : ByteArray) (num : Int) (args : List TT)
def TT.name : TT → ByteArray | .mk n _ _ => n
def TT.num : TT → Int | .mk _ c _ => c
def TT.args : TT → List TT | .mk _ _ l => l
inductive RdT (M : Mem) : Nat → Nat → TT → Prop
  | mk {b o : Nat} {name : ByteArray} {num : Int} {args : List TT} {A : Option Addr} {c b' o' : Nat} (h0 : Mk M b o (.string name)) (h1 : Mk M b (o + 1) (.int .i64 num)) (h2 : Mk M b (o + 2) (.slice A args.length c)) (hc : args.length ≤ c) (hb : args.length ≤ 140737488355328) (hA : args ≠ [] → A = some ⟨b', o', none⟩)
      (hel : ∀ i (h : i < args.length), RdT M b' (o' + i * 3) args[i]) : RdT M b o (.mk name num args)
theorem RdT.get {M : Mem} {b o : Nat} {x : TT} (h : RdT M b o x) : ∃ A c, Mk M b o (.string x.name) ∧ Mk M b (o + 1) (.int .i64 x.num) ∧ Mk M b (o + 2) (.slice A x.args.length c) ∧ RdS 3 (RdT M) A c x.args := by
  cases h with
  | mk h0 h1 h2 hc hb hA hel => exact ⟨_, _, h0, h1, h2, hc, hb, _, _, hA, hel⟩
theorem RdT.of {M : Mem} {b o : Nat} {x : TT} {A : Option Addr} {c : Nat} (h0 : Mk M b o (.string x.name)) (h1 : Mk M b (o + 1) (.int .i64 x.num)) (h2 : Mk M b (o + 2) (.slice A x.args.length c)) (h : RdS 3 (RdT M) A c x.args) : RdT M b o x := by
  obtain ⟨n, k, l⟩ := x
  obtain ⟨h1', hb, b', o', hA, hel⟩ := h
  exact .mk h0 h1 h2 h1' hb hA hel
theorem RdT.mono {M M' : Mem} (hM : M.le M') {b o : Nat} {x : TT} (h : RdT M b o x) : RdT M' b o x := by
  induction h with
  | mk h0 h1 h2 hc hb hA _ ih => exact .mk (h0.up hM) (h1.up hM) (h2.up hM) hc hb hA ih
/-- A struct value.term as its three cells. -/
def VVT (M : Mem) (A : Option Addr) (c : Nat) (x : TT) : Prop := RdS 3 (RdT M) A c x.args
theorem VVT.up {M M' : Mem} {A : Option Addr} {c : Nat} {x : TT} [hm : LeT M M'] (h : VVT M A c x) : VVT M' A c x := h.imp fun _ _ _ h => h.mono hm.out
/-- Cells that hold terms. -/
def FlT (M : Mem) : List Value → List TT → Prop
  | cs, [] => cs = []
  | cs, v :: l => ∃ A c cs', cs = .string v.name :: .int .i64 v.num :: .slice A v.args.length c :: cs' ∧ VVT M A c v ∧ FlT M cs' l
theorem FlT.up {M M' : Mem} [LeT M M'] : ∀ {l : List TT} {cs : List Value}, FlT M cs l → FlT M' cs l
  | [], _, h => h
  | v :: l, _, h => by obtain ⟨A, c, cs', h1, h2, h3⟩ := h; exact ⟨A, c, cs', h1, h2.up, h3.up⟩
theorem FlT.app {M : Mem} : ∀ {l l' : List TT} {cs cs' : List Value}, FlT M cs l → FlT M cs' l' → FlT M (cs ++ cs') (l ++ l')
  | [], _, _, _, h, h' => by cases h; exact h'
  | v :: l, _, _, _, h, h' => by obtain ⟨A, c, cs', rfl, h2, h3⟩ := h; exact ⟨A, c, _, rfl, h2, h3.app h'⟩
theorem FlT.one {M : Mem} {v : TT} {A : Option Addr} {c : Nat} (h : VVT M A c v) : FlT M [.string v.name, .int .i64 v.num, .slice A v.args.length c] [v] := ⟨A, c, [], rfl, h, rfl⟩
theorem FlT.len {M : Mem} : ∀ {l : List TT} {cs : List Value}, FlT M cs l → cs.length = l.length * 3
  | [], _, h => by cases h; rfl
  | v :: l, _, h => by obtain ⟨A, c, cs', rfl, h2, h3⟩ := h; have := h3.len; simp; omega
theorem FlT.at {M : Mem} : ∀ {l : List TT} {cs : List Value}, FlT M cs l → ∀ i (h : i < l.length), ∃ A c, VVT M A c l[i] ∧ cs[i * 3]? = some (.string l[i].name) ∧ cs[i * 3 + 1]? = some (.int .i64 l[i].num) ∧ cs[i * 3 + 2]? = some (.slice A l[i].args.length c)
  | [], _, _, i, h => by simp at h
  | v :: l, _, h, 0, _ => by obtain ⟨A, c, cs', rfl, h2, h3⟩ := h; exact ⟨A, c, h2, rfl, rfl, rfl⟩
  | v :: l, _, h, i + 1, hi => by
    obtain ⟨A, c, cs', rfl, h2, h3⟩ := h
    obtain ⟨A', c', a1, a2, a3, a4⟩ := h3.at i (by simpa using hi)
    refine ⟨A', c', a1, ?_, ?_, ?_⟩
    · rw [show (i + 1) * 3 = i * 3 + 1 + 1 + 1 by omega]; simpa using a2
    · rw [show (i + 1) * 3 + 1 = i * 3 + 1 + 1 + 1 + 1 by omega]; simpa using a3
    · rw [show (i + 1) * 3 + 2 = i * 3 + 2 + 1 + 1 + 1 by omega]; simpa using a4
/-- A row of terms that stays reads as their list. -/
theorem Kept.terms {M : Mem} {A : Option Addr} {n c : Nat} {cs : List Value} {l : List TT} (h : Kept M A n c 3 cs) (hf : FlT M cs l) (hb : l.length ≤ 140737488355328) : n = l.length ∧ RdS 3 (RdT M) A c l := by
  obtain ⟨h1, h2, h3⟩ := h
  have hl := hf.len
  have hn : n = l.length := by omega
  subst hn
  refine ⟨rfl, h2, hb, ?_⟩
  rcases Nat.eq_zero_or_pos l.length with h0 | h0
  · exact ⟨0, 0, fun hne => absurd (List.eq_nil_of_length_eq_zero h0) hne, fun i hi => by omega⟩
  · obtain ⟨b, hA, hc⟩ := h3 h0
    refine ⟨b, 0, fun _ => hA, fun i hi => ?_⟩
    obtain ⟨A', c', a1, a2, a3, a4⟩ := hf.at i hi
    rw [Nat.zero_add]
    exact RdT.of ⟨hc _ _ a2⟩ ⟨hc _ _ a3⟩ ⟨hc _ _ a4⟩ a1
theorem FlT.ones {M : Mem} : ∀ {l : List TT} {cs : List Value}, FlT M cs l → ∀ u ∈ cs, u.oneCell' = true
  | [], _, h => by cases h; simp
  | v :: l, _, h => by
    obtain ⟨A, c, cs', rfl, h2, h3⟩ := h
    intro u hu
    simp only [List.mem_cons] at hu
    rcases hu with rfl | rfl | rfl | hu
    · rfl
    · rfl
    · rfl
    · exact h3.ones u hu
end Go.Proofs.YtieaiheejhmbfaaGreatDoor.ML
/- The plain laws of the reader: spaces, words, terms. No conditions. -/
namespace Go.Proofs.YtieaiheejhmbfaaGreatDoor.ML
open Go.RowKit
set_option linter.unusedVariables false
set_option linter.unusedSimpArgs false
section
variable {P : Program} {tm : Tm} {M : Mem} {H : Heap} {gd : Option (Nat × Bool)} {ty : TypeId} {pos : String} {aft : Array Edge} {x y : Operand} {T T' : TypeId} {dd : Option Tmp} {v : Value}
def isIf : Option TypeDesc → Bool | some (.interface _) => true | _ => false
class If (P : Program) (T : TypeId) : Prop where o1 : isIf (P.underlying T) = true
theorem If.out {P : Program} {T : TypeId} (h : If P T) : ∃ ms, P.underlying T = some (.interface ms) := by
  have := h.o1
  cases hu : P.underlying T with
  | none => rw [hu] at this; cases this
  | some d => rw [hu] at this; cases d <;> first | exact ⟨_, rfl⟩ | cases this
def isNilI : Value → Bool | .nilIface => true | _ => false
theorem V.eqi0 [hT : If P T] [hx : Ev tm x v] (hv : v = .nilIface ∨ ∃ t u, v = .iface t u) : PVM P ⟨dd, .binOp .eql T x (.const .nilIface) T', ty, pos, aft, gd⟩ tm M (.bool (isNilI v)) :=
  .mk rfl (fun w => by
    obtain ⟨ms, hu⟩ := hT.out
    have h : ∀ d : Nat, (Op.equalIn (d + 1) T v .nilIface).run P w = .ok (isNilI v) w := fun d => by
      rcases hv with rfl | ⟨t, u, rfl⟩ <;> simp [Op.equalIn, run_underlying hu, isNilI]
    have hy : ev tm (.const .nilIface) = .nilIface := rfl
    have hg : (eqGuard .eql T x (.const .nilIface) v .nilIface) = (Pure.pure () : Sem Unit) := by
      rcases hv with rfl | ⟨t, u, rfl⟩
      · cases x <;> rfl
      · rfl
    simp only [execOp, hx.out, hy, hg]
    refine run_v ?_
    simp only [binOp]
    rcases hv with rfl | ⟨t, u, rfl⟩ <;> simp [Op.equal, Op.maxDepth, h 9999])
theorem PiOk.kind {s : ByteArray} {n : Int} {e : Value} (h : PiOk s n e) : e = .nilIface ∨ ∃ t u, e = .iface t u := by
  rcases h with ⟨_, rfl⟩ | ⟨_, t, N, rfl⟩
  · exact .inl rfl
  · exact .inr ⟨_, _, rfl⟩
instance : If Tryz.prog 124 := ⟨by kernel_rfl⟩
end
def skF (p : Int → Bool) (s : ByteArray) : Nat → Nat → Nat
  | 0, a => a
  | n + 1, a => if a < s.size ∧ p (byt s a) = true then skF p s n (a + 1) else a
def skO (p : Int → Bool) (s : ByteArray) (a : Nat) : Nat := skF p s (s.size - a) a
theorem skO_eq (p : Int → Bool) (s : ByteArray) (a : Nat) : skO p s a = if a < s.size ∧ p (byt s a) = true then skO p s (a + 1) else a := by
  unfold skO
  by_cases h : a < s.size
  · obtain ⟨k, hk⟩ : ∃ k, s.size - a = k + 1 := ⟨s.size - a - 1, by omega⟩
    rw [hk, skF, show s.size - (a + 1) = k by omega]
  · rw [show s.size - a = 0 by omega, skF, if_neg (fun hh => h hh.1)]
theorem skF_le (p : Int → Bool) (s : ByteArray) : ∀ (n a : Nat), n + a ≤ s.size → a ≤ skF p s n a ∧ skF p s n a ≤ s.size
  | 0, a, h => ⟨Nat.le_refl _, by rw [skF]; omega⟩
  | n + 1, a, h => by
    rw [skF]
    split
    · have := skF_le p s n (a + 1) (by omega); omega
    · omega
theorem skO_le (p : Int → Bool) (s : ByteArray) (a : Nat) (h : a ≤ s.size) : a ≤ skO p s a ∧ skO p s a ≤ s.size := skF_le p s _ a (by omega)
def spP (c : Int) : Bool := decide (c = 32)
def ltP (c : Int) : Bool := decide (97 ≤ c ∧ c ≤ 122 ∨ 65 ≤ c ∧ c ≤ 90 ∨ 48 ≤ c ∧ c ≤ 57 ∨ c = 95)
def nxB (s : ByteArray) (a : Nat) : Int := if a < s.size then byt s a else 0
def NumW (w : ByteArray) : Prop := ∀ i : Nat, i < w.size → ¬ ((byt w i < 48 ∨ 57 < byt w i) ∧ (0 < i ∨ byt w i ≠ 45))
instance (w : ByteArray) : Decidable (NumW w) := by unfold NumW; infer_instance
def wdF (w : ByteArray) : Option TT :=
  if w = ⟨#[]⟩ then none
  else if 65 ≤ byt w 0 ∧ byt w 0 ≤ 90 then some ⟨w, 0, []⟩
  else if NumW w then (match Lib.parseIntB 64 w.data.toList with | .ok v => some ⟨⟨#[]⟩, v, []⟩ | _ => none) else none
def wE (s : ByteArray) (a : Nat) : Nat := skO ltP s (if a < s.size ∧ byt s a = 45 then a + 1 else a)
def wordF (s : ByteArray) (a : Nat) : Option TT := if wE s a < s.size ∧ byt s (wE s a) = 45 then none else wdF (s.extract a (wE s a))
theorem wE_le (s : ByteArray) (a : Nat) (h : a ≤ s.size) : a ≤ wE s a ∧ wE s a ≤ s.size := by
  unfold wE
  split
  · have := skO_le ltP s (a + 1) (by omega); omega
  · exact skO_le ltP s a h
theorem word_n {s w : ByteArray} {a : Nat} (hw1 : ¬ (wE s a < s.size ∧ byt s (wE s a) = 45)) (hwx : s.extract a (wE s a) = w) : wordF s a = wdF w := by rw [wordF, if_neg hw1, hwx]
theorem word_0 {s w : ByteArray} {a : Nat} (hwx : s.extract a (wE s a) = w) (h : w = ⟨#[]⟩) : wordF s a = none := by
  rw [wordF]
  split
  · rfl
  · rw [hwx, wdF, if_pos h]
theorem word_1 {s : ByteArray} {a : Nat} (h : wE s a < s.size ∧ byt s (wE s a) = 45) : wordF s a = none := by rw [wordF, if_pos h]
theorem wd_num {w : ByteArray} {nu : Int} {ev : Value} (h0 : ¬ w = ⟨#[]⟩) (h1 : ¬ (65 ≤ byt w 0 ∧ byt w 0 ≤ 90)) (h2 : NumW w) (hp : PiOk w nu ev) : isNilI ev = (wdF w).isSome ∧ ∀ t, wdF w = some t → t = ⟨⟨#[]⟩, nu, []⟩ := by
  unfold wdF
  rw [if_neg h0, if_neg h1, if_pos h2]
  rcases hp with ⟨h, rfl⟩ | ⟨h, t, N, rfl⟩
  · rw [h]; exact ⟨rfl, fun t e => by cases e; rfl⟩
  · cases hq : Lib.parseIntB 64 w.data.toList with
    | ok v => exact absurd hq (h v)
    | _ => exact ⟨rfl, fun t e => by cases e⟩
theorem wdF_name {w : ByteArray} {t : TT} (h : wdF w = some t) : w ≠ ⟨#[]⟩ ∧ t.args = [] := by
  unfold wdF at h
  split at h
  · cases h
  rename_i h1
  refine ⟨h1, ?_⟩
  split at h
  · cases h; rfl
  split at h
  · split at h
    · cases h; rfl
    · cases h
  · cases h
theorem wordF_some {s : ByteArray} {a : Nat} {t : TT} (ha : a ≤ s.size) (h : wordF s a = some t) : a < wE s a ∧ t.args = [] := by
  unfold wordF at h
  split at h
  · cases h
  have := wdF_name h
  refine ⟨?_, this.2⟩
  have h2 := wE_le s a ha
  rcases Nat.lt_or_ge a (wE s a) with hlt | hge
  · exact hlt
  · exfalso
    apply this.1
    have e : wE s a = a := by omega
    rw [e]
    apply ByteArray.ext
    simp
mutual
/-- A term up to a closing parenthesis or the end: the term, and where it ends. -/
def termF (s : ByteArray) : Nat → Nat → Option TT × Nat
  | 0, a => (none, a)
  | n + 1, a => match wordF s (skO spP s a) with
    | none => (none, wE s (skO spP s a))
    | some t => loopF s n t.name t.num [] (wE s (skO spP s a))
def loopF (s : ByteArray) : Nat → ByteArray → Int → List TT → Nat → Option TT × Nat
  | 0, _, _, _, a => (none, a)
  | n + 1, nm, nu, l, a =>
    if nxB s (skO spP s a) = 0 ∨ nxB s (skO spP s a) = 41 then (some ⟨nm, nu, l⟩, skO spP s a)
    else if nm = ⟨#[]⟩ then (none, skO spP s a)
    else if nxB s (skO spP s a) = 40 then
      match termF s n (skO spP s a + 1) with
      | (none, b) => (none, b)
      | (some t, b) => if nxB s (skO spP s b) ≠ 41 then (none, skO spP s b) else loopF s n nm nu (l ++ [t]) (skO spP s b + 1)
    else match wordF s (skO spP s a) with
      | none => (none, wE s (skO spP s a))
      | some t => loopF s n nm nu (l ++ [t]) (wE s (skO spP s a))
end
mutual
def knV (d : List DT) : TT → Bool
  | .mk nm _ l => (decide (nm = ⟨#[]⟩) || (conF nm d 1).2.2) && knL d l
def knL (d : List DT) : List TT → Bool
  | [] => true
  | t :: l => knV d t && knL d l
end
theorem knV_eq (d : List DT) (t : TT) : knV d t = ((decide (t.name = ⟨#[]⟩) || (conF t.name d 1).2.2) && knL d t.args) := by cases t; rw [knV]; rfl
theorem knL_iff (d : List DT) : ∀ l : List TT, knL d l = true ↔ ∀ i (h : i < l.length), knV d l[i] = true
  | [] => by simp [knL]
  | t :: l => by
    rw [knL, Bool.and_eq_true, knL_iff d l]
    constructor
    · rintro ⟨h1, h2⟩ i hi
      cases i with
      | zero => exact h1
      | succ i => simpa using h2 i (by simpa using hi)
    · intro h
      exact ⟨h 0 (by simp), fun i hi => h (i + 1) (by simpa using hi)⟩
/-- A constructor's fields. -/
def fldC (d : List DT) (t con : Int) : List Int := ((consF d t).getD con.toNat ⟨⟨#[]⟩, []⟩).fields
mutual
def bdV (d : List DT) : Int → TT → Option VT
  | t, .mk nm nu l =>
    if t = 0 then (if nm = ⟨#[]⟩ then some ⟨nu, 0, []⟩ else none)
    else if nm = ⟨#[]⟩ ∨ (conF nm d 1).2.2 = false ∨ (conF nm d 1).1 ≠ t ∨ (fldC d t (conF nm d 1).2.1).length ≠ l.length then none
    else (bdL d (fldC d t (conF nm d 1).2.1) l).map fun vs => ⟨0, (conF nm d 1).2.1, vs⟩
def bdL (d : List DT) : List Int → List TT → Option (List VT)
  | _, [] => some []
  | ts, x :: l => match bdV d (ts.headD 0) x with
    | none => none
    | some v => (bdL d ts.tail l).map (v :: ·)
end
section
variable {s : ByteArray} {m a : Nat} {nm : ByteArray} {nu : Int} {l : List TT}
theorem lp_done (h : nxB s (skO spP s a) = 0 ∨ nxB s (skO spP s a) = 41) : loopF s (m + 1) nm nu l a = (some ⟨nm, nu, l⟩, skO spP s a) := by rw [loopF, if_pos h]
theorem lp_num (h : ¬ (nxB s (skO spP s a) = 0 ∨ nxB s (skO spP s a) = 41)) (h2 : nm = ⟨#[]⟩) : loopF s (m + 1) nm nu l a = (none, skO spP s a) := by rw [loopF, if_neg h, if_pos h2]
theorem lp_t0 (h : ¬ (nxB s (skO spP s a) = 0 ∨ nxB s (skO spP s a) = 41)) (h2 : ¬ nm = ⟨#[]⟩) (h3 : nxB s (skO spP s a) = 40) (h4 : (termF s m (skO spP s a + 1)).1.isSome = false) : loopF s (m + 1) nm nu l a = (none, (termF s m (skO spP s a + 1)).2) := by
  rw [loopF, if_neg h, if_neg h2, if_pos h3]
  cases hq : termF s m (skO spP s a + 1) with
  | mk o b => cases o with
    | none => rfl
    | some t => rw [hq] at h4; cases h4
theorem lp_t1 (h : ¬ (nxB s (skO spP s a) = 0 ∨ nxB s (skO spP s a) = 41)) (h2 : ¬ nm = ⟨#[]⟩) (h3 : nxB s (skO spP s a) = 40) {t : TT} (h4 : (termF s m (skO spP s a + 1)).1 = some t) (h5 : nxB s (skO spP s (termF s m (skO spP s a + 1)).2) ≠ 41) : loopF s (m + 1) nm nu l a = (none, skO spP s (termF s m (skO spP s a + 1)).2) := by
  rw [loopF, if_neg h, if_neg h2, if_pos h3]
  cases hq : termF s m (skO spP s a + 1) with
  | mk o b => rw [hq] at h4 h5; cases h4; simp only; rw [if_pos h5]
theorem lp_t2 (h : ¬ (nxB s (skO spP s a) = 0 ∨ nxB s (skO spP s a) = 41)) (h2 : ¬ nm = ⟨#[]⟩) (h3 : nxB s (skO spP s a) = 40) {t : TT} (h4 : (termF s m (skO spP s a + 1)).1 = some t) (h5 : nxB s (skO spP s (termF s m (skO spP s a + 1)).2) = 41) : loopF s (m + 1) nm nu l a = loopF s m nm nu (l ++ [t]) (skO spP s (termF s m (skO spP s a + 1)).2 + 1) := by
  rw [loopF, if_neg h, if_neg h2, if_pos h3]
  cases hq : termF s m (skO spP s a + 1) with
  | mk o b => rw [hq] at h4 h5; cases h4; simp only; rw [if_neg (fun hn => hn h5)]
theorem lp_w0 (h : ¬ (nxB s (skO spP s a) = 0 ∨ nxB s (skO spP s a) = 41)) (h2 : ¬ nm = ⟨#[]⟩) (h3 : ¬ nxB s (skO spP s a) = 40) (h4 : (wordF s (skO spP s a)).isSome = false) : loopF s (m + 1) nm nu l a = (none, wE s (skO spP s a)) := by
  rw [loopF, if_neg h, if_neg h2, if_neg h3]
  cases hq : wordF s (skO spP s a) with
  | none => rfl
  | some t => rw [hq] at h4; cases h4
theorem lp_w1 (h : ¬ (nxB s (skO spP s a) = 0 ∨ nxB s (skO spP s a) = 41)) (h2 : ¬ nm = ⟨#[]⟩) (h3 : ¬ nxB s (skO spP s a) = 40) {t : TT} (h4 : wordF s (skO spP s a) = some t) : loopF s (m + 1) nm nu l a = loopF s m nm nu (l ++ [t]) (wE s (skO spP s a)) := by
  rw [loopF, if_neg h, if_neg h2, if_neg h3, h4]
theorem tm_0 (h : (wordF s (skO spP s a)).isSome = false) : termF s (m + 1) a = (none, wE s (skO spP s a)) := by
  rw [termF]
  cases hq : wordF s (skO spP s a) with
  | none => rfl
  | some t => rw [hq] at h; cases h
theorem tm_1 {t : TT} (h : wordF s (skO spP s a) = some t) : termF s (m + 1) a = loopF s m t.name t.num [] (wE s (skO spP s a)) := by rw [termF, h]
theorem nx_lt (h : nxB s a ≠ 0) : a < s.size := by
  unfold nxB at h
  split at h
  · assumption
  · exact absurd rfl h
end
theorem term_le (s : ByteArray) : ∀ (n : Nat), (∀ a, a ≤ s.size → a ≤ (termF s n a).2 ∧ (termF s n a).2 ≤ s.size) ∧ (∀ nm nu l a, a ≤ s.size → a ≤ (loopF s n nm nu l a).2 ∧ (loopF s n nm nu l a).2 ≤ s.size)
  | 0 => ⟨fun a h => by rw [termF]; exact ⟨Nat.le_refl _, h⟩, fun nm nu l a h => by rw [loopF]; exact ⟨Nat.le_refl _, h⟩⟩
  | n + 1 => by
    obtain ⟨i1, i2⟩ := term_le s n
    refine ⟨fun a h => ?_, fun nm nu l a h => ?_⟩
    · have h1 := skO_le spP s a h
      have h2 := wE_le s _ h1.2
      cases hq : wordF s (skO spP s a) with
      | none => rw [tm_0 (by rw [hq]; rfl)]; exact ⟨by omega, by omega⟩
      | some t => rw [tm_1 hq]; have := i2 t.name t.num [] _ h2.2; omega
    · have h1 := skO_le spP s a h
      have h2 := wE_le s _ h1.2
      by_cases c1 : nxB s (skO spP s a) = 0 ∨ nxB s (skO spP s a) = 41
      · rw [lp_done c1]; exact h1
      by_cases c2 : nm = ⟨#[]⟩
      · rw [lp_num c1 c2]; exact h1
      have hlt := nx_lt (s := s) (a := skO spP s a) (fun e => c1 (.inl e))
      by_cases c3 : nxB s (skO spP s a) = 40
      · have h3 := i1 (skO spP s a + 1) (by omega)
        have h4 := skO_le spP s _ h3.2
        cases hq : (termF s n (skO spP s a + 1)).1 with
        | none => rw [lp_t0 c1 c2 c3 (by rw [hq]; rfl)]; exact ⟨by omega, by omega⟩
        | some t =>
          by_cases c5 : nxB s (skO spP s (termF s n (skO spP s a + 1)).2) = 41
          · rw [lp_t2 c1 c2 c3 hq c5]
            have hlt2 := nx_lt (s := s) (a := skO spP s (termF s n (skO spP s a + 1)).2) (by rw [c5]; decide)
            have := i2 nm nu (l ++ [t]) (skO spP s (termF s n (skO spP s a + 1)).2 + 1) (by omega)
            omega
          · rw [lp_t1 c1 c2 c3 hq c5]; exact ⟨by omega, by omega⟩
      · cases hq : wordF s (skO spP s a) with
        | none => rw [lp_w0 c1 c2 c3 (by rw [hq]; rfl)]; exact ⟨by omega, by omega⟩
        | some t => rw [lp_w1 c1 c2 c3 hq]; have := i2 nm nu (l ++ [t]) _ h2.2; omega
/-- What a reading function hands back. -/
def TmR (r : Value) (M : Mem) (o : Option TT) : Prop := ∃ nm nu A k c ok, r = .tuple #[.agg #[.string nm, .int .i64 nu, .slice A k c], .bool ok] ∧ ok = o.isSome ∧ ∀ t, o = some t → t.name = nm ∧ t.num = nu ∧ t.args.length = k ∧ VVT M A c t
theorem TmR.none {nm : ByteArray} {nu : Int} {A : Option Addr} {k c : Nat} {M : Mem} {o : Option TT} (h : o = Option.none) : TmR (.tuple #[.agg #[.string nm, .int .i64 nu, .slice A k c], .bool false]) M o := ⟨_, _, _, _, _, _, rfl, by rw [h]; rfl, fun t e => by rw [h] at e; cases e⟩
theorem TmR.some {nm : ByteArray} {nu : Int} {A : Option Addr} {k c : Nat} {M : Mem} {o : Option TT} {l : List TT} (h : o = Option.some ⟨nm, nu, l⟩) (hk : k = l.length) (hl : RdS 3 (RdT M) A c l) : TmR (.tuple #[.agg #[.string nm, .int .i64 nu, .slice A k c], .bool true]) M o := ⟨_, _, _, _, _, _, rfl, by rw [h]; rfl, fun t e => by rw [h] at e; cases e; exact ⟨rfl, rfl, hk.symm, hl⟩⟩
theorem FlT.leaf {M : Mem} {nm : ByteArray} {nu : Int} : FlT M [.string nm, .int .i64 nu, .slice Option.none 0 0] [⟨nm, nu, []⟩] := FlT.one (v := ⟨nm, nu, []⟩) RdS.nil
end Go.Proofs.YtieaiheejhmbfaaGreatDoor.ML
