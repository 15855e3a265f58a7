/- The law TokenJoins holds for every input: its row, and the card that ties the row's package-level variables to the program's text. Condition: the listed variables hold what their initialisers lay (the card's tie). -/
import Derived.Test.YtenjbcjekjmaeaaDoorCards
import Derived.Deep.Slices
import Derived.Test.YtenjbcjekjmaeaaDoorTie
import Derived.Test.YtenjbcjekjmaeaaDoorLaidAt
import Derived.Test.YtenjbcjekjmaeaaDoorPTokx39
import Derived.Test.YtenjbcjekjmaeaaDoorTokZ
namespace Go.Proofs.YtenjbcjekjmaeaaDoor.tokenJoins
open Go.ChangeShapes Go.WideShapes Go.ChangeAt Go.RowKit
open Go.ChangeMaps (open_string shut_string)
set_option linter.unusedVariables false
open Go.Proofs.YtenjbcjekjmaeaaDoorW.PrintWords Go.Proofs.YtenjbcjekjmaeaaDoor.PTok
theorem laidOut : laidOutB Tryd.prog = true := by kernel_rfl
theorem c3 : Tryd.prog.cellsOf 3 = 1 := by kernel_rfl
theorem c9 : Tryd.prog.cellsOf 9 = 1 := by kernel_rfl
theorem c33 : Tryd.prog.cellsOf 33 = 2 := by kernel_rfl
theorem c41 : Tryd.prog.cellsOf 41 = 4 := by kernel_rfl
theorem has {α : Type} {l : List α} {n i : Nat} (h : l.length = n) (hi : i < n) : ∃ y, l[i]? = some y := ⟨_, List.getElem?_eq_getElem (by omega)⟩
theorem choose_list {α : Type} (Q : Nat → α → Prop) : ∀ n : Nat, (∀ i, i < n → ∃ a, Q i a) → ∃ xs : List α, xs.length = n ∧ ∀ j p, xs[j]? = some p → Q j p
  | 0, _ => ⟨[], rfl, fun j p h => by simp at h⟩
  | n + 1, h => by
    obtain ⟨xs, h1, h2⟩ := choose_list Q n (fun i hi => h i (by omega))
    obtain ⟨a, ha⟩ := h n (by omega)
    refine ⟨xs ++ [a], by simp [h1], fun j p hj => ?_⟩
    by_cases hlt : j < n
    · rw [List.getElem?_append_left (by omega)] at hj
      exact h2 j p hj
    · have hj' : j < (xs ++ [a]).length := (List.getElem?_eq_some_iff.1 hj).1
      simp only [List.length_append, List.length_singleton] at hj'
      obtain rfl : j = n := by omega
      rw [List.getElem?_append_right (by omega), h1, Nat.sub_self] at hj
      simp only [List.getElem?_cons_zero, Option.some.injEq] at hj
      subst hj
      exact ha
section
variable {H : Type} {enc : TypeId × Value → H} {W : World} {base : Nat} {spare : Nat → Bool} {held : Bool}
/-- A token's four cells. -/
theorem one_token {fuel : Nat} {cs : List Value} {x : DataW H × List MemPlace} (h : DataW.trod enc Tryd.prog W base spare held fuel 41 cs = some x) :
    ∃ t : S41, cs = [.int .i64 t.f0, .string t.f1, .int .i64 t.f2.f0, .int .i64 t.f2.f1] := by
  obtain ⟨xs, n, _, _, hlen, hxl, hf⟩ := DataW.trod_struct Tryd.underlying41 h
  rw [c41] at hlen
  obtain ⟨v0, v1, v2, v3, rfl⟩ : ∃ v0 v1 v2 v3, cs = [v0, v1, v2, v3] := by
    rcases cs with _ | ⟨v0, cs⟩
    · simp only [List.length_nil] at hlen; omega
    rcases cs with _ | ⟨v1, cs⟩
    · simp only [List.length_cons, List.length_nil] at hlen; omega
    rcases cs with _ | ⟨v2, cs⟩
    · simp only [List.length_cons, List.length_nil] at hlen; omega
    rcases cs with _ | ⟨v3, cs⟩
    · simp only [List.length_cons, List.length_nil] at hlen; omega
    rcases cs with _ | ⟨v4, cs⟩
    · exact ⟨v0, v1, v2, v3, rfl⟩
    · simp only [List.length_cons] at hlen; omega
  obtain ⟨y0, hy0⟩ := has (i := 0) hxl (by decide)
  obtain ⟨y1, hy1⟩ := has (i := 1) hxl (by decide)
  obtain ⟨y2, hy2⟩ := has (i := 2) hxl (by decide)
  have e0 : DataW.trod enc Tryd.prog W base spare held n 3 (([v0, v1, v2, v3].drop 0).take (Tryd.prog.cellsOf 3)) = some y0 := (hf 0 _ rfl).trans hy0
  have e1 : DataW.trod enc Tryd.prog W base spare held n 9 (([v0, v1, v2, v3].drop 1).take (Tryd.prog.cellsOf 9)) = some y1 := (hf 1 _ rfl).trans hy1
  have e2 : DataW.trod enc Tryd.prog W base spare held n 33 (([v0, v1, v2, v3].drop 2).take (Tryd.prog.cellsOf 33)) = some y2 := (hf 2 _ rfl).trans hy2
  rw [c3] at e0
  rw [c9] at e1
  rw [c33] at e2
  obtain ⟨a, ha, _, _⟩ := DataW.trod_int Tryd.underlying3 e0
  obtain ⟨b, hb, _, _⟩ := DataW.trod_string Tryd.underlying9 e1
  obtain ⟨ys, m, _, _, _, hyl, hg⟩ := DataW.trod_struct Tryd.underlying33 e2
  obtain ⟨z0, hz0⟩ := has (i := 0) hyl (by decide)
  obtain ⟨z1, hz1⟩ := has (i := 1) hyl (by decide)
  have e3 : DataW.trod enc Tryd.prog W base spare held m 3 (((([v0, v1, v2, v3].drop 2).take 2).drop 0).take (Tryd.prog.cellsOf 3)) = some z0 := (hg 0 _ rfl).trans hz0
  have e4 : DataW.trod enc Tryd.prog W base spare held m 3 (((([v0, v1, v2, v3].drop 2).take 2).drop 1).take (Tryd.prog.cellsOf 3)) = some z1 := (hg 1 _ rfl).trans hz1
  rw [c3] at e3 e4
  obtain ⟨c, hc, _, _⟩ := DataW.trod_int Tryd.underlying3 e3
  obtain ⟨d, hd, _, _⟩ := DataW.trod_int Tryd.underlying3 e4
  simp at ha hb hc hd
  subst ha hb hc hd
  exact ⟨⟨a, b, ⟨c, d⟩⟩, rfl⟩
/-- The argument's list. -/
theorem opened {a0 : Option Addr} {len0 cap0 : Nat} {d0 : DataW H} {p0 : List MemPlace} (h : DataW.Trod enc Tryd.prog W base (fun _ => true) held 28 (.slice a0 len0 cap0) d0 p0) : ∃ xs : List S41, len0 = xs.length ∧ xs.length ≤ cap0 ∧ Kd.C k41 W a0 xs.length xs := by
  obtain ⟨fuel, hf⟩ := h
  rcases Go.Deep.open_slice Tryd.underlying28 hf with ⟨hcs, _⟩ | ⟨x, l, c, m, n, D, Pl, hcs, _, hl, hm, hmm, _, hcell⟩
  · simp [Value.cells] at hcs
    obtain ⟨rfl, rfl, rfl⟩ := hcs
    exact ⟨[], rfl, Nat.le_refl _, rfl, by decide, fun h => absurd h (by decide)⟩
  · simp [Value.cells] at hcs
    obtain ⟨rfl, rfl, rfl⟩ := hcs
    simp only [if_true] at hmm
    obtain ⟨xs, h1, h2⟩ := choose_list (fun i (t : S41) => ∀ j u, [Value.int .i64 t.f0, .string t.f1, .int .i64 t.f2.f0, .int .i64 t.f2.f1][j]? = some u → W.cell? (x.add (i * 4 + j)) = some u) len0 (fun i hi => by
      obtain ⟨cs', hc, ht⟩ := hcell i (by omega)
      obtain ⟨t, rfl⟩ := one_token ht
      rw [c41] at hc
      obtain ⟨_, _, hat⟩ := World.cells?_some hc
      refine ⟨t, fun j u hj => ?_⟩
      have hj4 : j < 4 := (List.getElem?_eq_some_iff.1 hj).1
      rw [← Go.Deep.add_add, hat j hj4, hj])
    unfold maxLen at hm
    exact ⟨xs, h1.symm, by omega, rfl, by omega, fun _ => ⟨x, rfl, fun j p hp => ⟨_, rfl, k41_mk W p, h2 j p hp⟩⟩⟩
end
theorem reads (os : Os) {H : Type} (enc : TypeId × Value → H) : ∃ places, DataW.whole enc Tryd.prog ((LaidAt.laidWorld os).forCall (fun _ _ => 0) ⟨#[], #[.slice none 0 0], []⟩).memory Tryd.f8.params.toList Rows.tokenJoinsSpec.vars false #[Value.slice none 0 0].toList 8 = some ([.nil], [], places) :=
  ⟨[], by kernel_rfl⟩
set_option maxRecDepth 100000 in
theorem lifted (os : Os) (started : os.Started) (H : Type) (enc : TypeId × Value → H) (F : Stop.Interp) :
    ReturnsInHanded {} Tryd.checked os 8 .any ((OpenSpec.ofChange Rows.tokenJoinsSpec).preRow enc Tryd.prog Tryd.f8 Rows.tokenJoinsRow.domain false Rows.tokenJoinsRow.laid) (((OpenSpec.ofChange Rows.tokenJoinsSpec).at F).post enc Tryd.prog Tryd.f8 false true false false) := by
  obtain ⟨places, hx⟩ := reads os enc
  refine returnsInHanded_of_row (C := Tryd.checked) (s := OpenSpec.ofChange Rows.tokenJoinsSpec) LaidAt.own started (by kernel_rfl) Tryd.func8
    (witness_row_atRef (enc := enc) (C := Tryd.checked) false (LaidAt.laidWorld os) #[.slice none 0 0] rfl (by kernel_rfl) (by kernel_rfl) (by kernel_rfl)
      (OpenSpec.preRow_of_cond 8 hx (by kernel_rfl) (fun k hk => by cases hk) (by kernel_rfl) (LaidAt.laid_met os _))) ?_
  intro W base args ds gs before hval0 hW _ _ hsz0 hL _ _
  have hsz : (DataW.weightsEach Tryd.prog (Tryd.f8.params.toList ++ Rows.tokenJoinsSpec.plain.varTypes Tryd.prog) (ds ++ gs)).all (· ≤ reachBytes) = true := hsz0
  have hval : ∀ (j : Nat) t v, Tryd.f8.params[j]? = some t → args[j]? = some v → Value.okWide Tryd.prog W .any base t v := hval0
  have hW' := hW
  obtain ⟨p, q, hA0, hV, rfl, hfz, hnd⟩ := hW
  have hA : DataW.TrodAll enc Tryd.prog W 0 (fun _ => true) true Tryd.f8.params.toList args.toList ds p := hA0
  rw [Tryd.params8] at hA hval hsz
  obtain ⟨v0, vs0, d0, ds0, p0, q0, hargs, rfl, rfl, h0, r0⟩ := trodAll_cons hA
  obtain ⟨rfl, rfl, rfl⟩ := trodAll_nil r0
  obtain rfl : args = #[v0] := by cases args; simp_all
  obtain ⟨rfl, rfl⟩ := trodVars_none hV
  obtain ⟨a0, len0, cap0, rfl⟩ := okWide_slice Tryd.underlying28 (hval 0 28 v0 rfl rfl)
  have k0 := h0
  have lt0 : ∀ x ∈ p0, x.block < W.heap.size := by obtain ⟨m, hm⟩ := k0; exact DataW.trod_lt m _ _ _ hm
  obtain ⟨xs, rfl, hle, hC⟩ := opened h0
  obtain ⟨k, hk⟩ := PTok.joins xs
  clear hA0 hval0 hsz0 hsz
  refine (PTok.cellarerlaw13_TokenJoins.calls k a0 cap0 xs true W (LaidAt.gok hL) hC hle hk).mono fun e W' ⟨he, bel⟩ => ?_
  subst he
  exact ⟨_, rfl, _, _, _, [], _, [], hW', trodAll_mk1 (shut_bool Tryd.underlying4 _), (trodAll_cons_mk (Below.trod laidOut (by kernel_rfl) (of_decide_eq_true (by kernel_rfl)) k0 bel lt0) trodAll_mk0), rfl, bel.frame _, fun h => by cases h⟩
theorem said : Rows.TokenJoinsSaid :=
  OpenClaim.holds_of_cond 8 Tryd.f8 rfl rfl rfl rfl rfl rfl rfl ⟨rfl, rfl, rfl, rfl, rfl⟩ rfl rfl rfl rfl rfl (by kernel_rfl) Tryd.func8 (by kernel_rfl)
    (of_decide_eq_true (by kernel_rfl)) (by unfold Func.isWrapper; first | (rw [if_pos (by decide +kernel)]; kernel_rfl) | (rw [if_neg (by decide +kernel)]; exact ⟨rfl, rfl⟩))
    (fun os started H enc _ F => by rw [OpenClaim.pre_eq_preRow]; exact lifted os started H enc F)
theorem plain (f : FuncId) (fn : Func) (hf : Tryd.pinned.checked.prog.funcNamed "cellarer/cellarerlaw13.TokenJoins" = some f) (hfn : Tryd.pinned.checked.prog.funcs[f]? = some fn) :
    true = Tryd.pinned.checked.prog.looks [] ∧ ∀ (j : Nat) t, fn.params[j]? = some t → Tryd.pinned.checked.prog.wantsStandIn t = false := by
  obtain rfl : f = 8 := Option.some.inj ((show Tryd.prog.funcNamed "cellarer/cellarerlaw13.TokenJoins" = some 8 by kernel_rfl).symm.trans hf) |>.symm
  obtain rfl : fn = Tryd.f8 := (Option.some.inj (Tryd.func8.symm.trans hfn)).symm
  refine ⟨by kernel_rfl, fun j t ht => ?_⟩
  rw [Tryd.params8] at ht
  have ht' : t ∈ #[28] := Array.mem_of_getElem? ht
  simp only [List.mem_toArray, List.mem_cons, List.not_mem_nil, or_false] at ht'
  subst ht'
  exact (show Tryd.prog.wantsStandIn 28 = false by kernel_rfl)
/-- The card. -/
theorem card : Rows.TokenJoinsCardSaid :=
  Claim7.holds_tied_plain_at .later [] _ _ _ _ said (fun _ h => by cases h) (by kernel_rfl) (fun _ h => by cases h) tokenJoins_row_tie rfl ⟨rfl, rfl⟩ (by kernel_rfl) rfl plain (by kernel_rfl)
end Go.Proofs.YtenjbcjekjmaeaaDoor.tokenJoins
namespace Go.Proofs.YtenjbcjekjmaeaaDoor
/-- The card, under a short name, for the claim. -/
theorem tokenJoins_holds : Rows.TokenJoinsCardSaid := tokenJoins.card
#print axioms tokenJoins_holds
end Go.Proofs.YtenjbcjekjmaeaaDoor
