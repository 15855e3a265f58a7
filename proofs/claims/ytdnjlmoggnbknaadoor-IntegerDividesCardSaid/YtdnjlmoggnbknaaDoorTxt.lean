/- The program's (number).text: the digits of the greatest limb, then nine digits a limb; more than 400 are refused. Conditions: limbs below 10^9, at most a million of them; the table of powers of ten holds what its initialiser lays. -/
import Derived.Test.YtdnjlmoggnbknaaDoorFmt
import Derived.Lib.Builder
import Derived.Shelf.Strings.BuilderF
import Derived.LoopTactic
import Derived.WalkMore
namespace Go.Proofs.YtdnjlmoggnbknaaDoor.Ext
open Go.RowKit Go.Proofs.YtdnjlmoggnbknaaDoorW.PrintWords
set_option linter.unusedVariables false

theorem isb_below {T e : TypeId} {B b : Nat} {bs : List Value} {w w1 : World} (h : Lib.IsBuilderF T e B b bs w) (hb : Below w.heap.size w w1) : Lib.IsBuilderF T e B b bs w1 := by
  have key : ∀ p, Lib.BuilderAtF T e B b p bs w → Lib.BuilderAtF T e B b p bs w1 := by
    intro p h
    have hlt := h.lt
    obtain ⟨hB, v, hbk, hown, hne⟩ := h
    exact ⟨hB, v, (hb.block b hlt).trans hbk, hown.kept (row := none) ⟨hb.os, hb.tape, hb.output, hb.size, fun k hk _ => hb.block k hk⟩ (by cases v.ownBlock <;> simp), hne⟩
  exact h.elim (fun x => .inl (key _ x)) (fun x => .inr (key _ x))
theorem builder_new {w : World} {B b : Nat} (hB : B ≤ b) (h : w.heap[b]? = some (.cells #[.pointer none, .slice none 0 0] 83 (0, 0))) : Lib.IsBuilderF 83 5 B b (Lib.byteCells []) w :=
  .inl ⟨hB, _, h, ⟨rfl, .inl ⟨rfl, rfl⟩⟩, by simp [Value.ownBlock]⟩
theorem textR_snoc (r : List Int) (h : r ≠ []) (y : Int) : textR (r ++ [y]) = textR r ++ grp y := by
  cases r with
  | nil => exact absurd rfl h
  | cons x r => simp [textR]
theorem nDigits_le : ∀ k u, u < 10 ^ (k + 1) → Lib.nDigits u ≤ k + 1
  | 0, u, h => by rw [Lib.nDigits_small (by simpa using h)]; exact Nat.le_refl _
  | k + 1, u, h => by
    by_cases h0 : u < 10
    · rw [Lib.nDigits_small h0]; omega
    · rw [Lib.nDigits_big h0]
      have e : 10 ^ (k + 1 + 1) = 10 ^ (k + 1) * 10 := Nat.pow_succ 10 (k + 1)
      have := nDigits_le k (u / 10) (by omega)
      omega
theorem len9 {u : Nat} (h : u < 1000000000) : (Lib.decDigits u).length ≤ 9 := by
  rw [Lib.decDigits_length]
  exact nDigits_le 8 u h
theorem repeat_zero (n : Nat) : Lib.repeatL [48] n = List.replicate n 48 := by
  induction n with
  | zero => rfl
  | succ n ih => simp [Lib.repeatL, ih, List.replicate_succ]
theorem textR_len (r : List Int) (h : ∀ x ∈ r, 0 ≤ x ∧ x < 1000000000) : (textR r).length ≤ 9 * r.length := by
  have hg : ∀ r : List Int, (∀ x ∈ r, 0 ≤ x ∧ x < 1000000000) → (r.flatMap grp).length ≤ 9 * r.length := by
    intro r
    induction r with
    | nil => intro _; simp
    | cons y r ih =>
      intro h
      have h1 := ih (fun x hx => h x (by simp [hx]))
      have h2 := h y (by simp)
      have h3 := len9 (u := y.toNat) (by omega)
      simp only [List.flatMap_cons, List.length_append, grp, List.length_replicate, List.length_cons]
      omega
  cases r with
  | nil => simp [textR]
  | cons x r =>
    have h1 := hg r (fun y hy => h y (by simp [hy]))
    have h2 := h x (by simp)
    have h3 := len9 (u := x.toNat) (by omega)
    simp only [textR, List.length_append, List.length_cons]
    omega
theorem rev_take (l : List Int) (i : Nat) (h : i < l.length) : l.reverse.take (i + 1) = l.reverse.take i ++ [rd l ((l.length : Int) - 1 - i)] := by
  have h' : i < l.reverse.length := by simpa using h
  rw [List.take_succ_eq_append_getElem h']
  congr 1
  have e : ((l.length : Int) - 1 - i).toNat = l.length - 1 - i := by omega
  rw [rd, e, List.getElem_reverse, List.getD_eq_getElem?_getD, List.getElem?_eq_getElem (by omega)]
  rfl
theorem textR_step (l : List Int) (i : Nat) (h : i < l.length) : textR (l.reverse.take (i + 1)) = textR (l.reverse.take i) ++ (if 0 < i then grp (rd l ((l.length : Int) - 1 - i)) else Lib.decDigits (rd l ((l.length : Int) - 1 - i)).toNat) := by
  rw [rev_take l i h]
  by_cases h0 : 0 < i
  · rw [if_pos h0, textR_snoc]
    intro e
    have e2 : (l.reverse.take i).length = i := by rw [List.length_take, List.length_reverse]; omega
    rw [e] at e2
    simp at e2
    omega
  · obtain rfl : i = 0 := by omega
    simp [textR]
theorem cat45 (t : List UInt8) : (⟨#[45]⟩ : ByteArray) ++ ⟨t.toArray⟩ = ⟨(45 :: t).toArray⟩ := by
  apply ByteArray.ext
  rw [ByteArray.data_append]
  simp
/-- What text hands back. -/
def textOut (neg : Bool) (l : List Int) : Value := if 400 < (textL l).length then .tuple #[.string ⟨#[]⟩, .int .i64 5] else if neg = true then .tuple #[.string ⟨(45 :: textL l).toArray⟩, .int .i64 0] else .tuple #[.string ⟨(textL l).toArray⟩, .int .i64 0]
set_option maxHeartbeats 6400000 in
set_option maxRecDepth 100000 in
theorem text_walk (neg : Bool) (A : Option Addr) (c : Nat) (l : List Int) (w : World) (hG : GOK w) (hr : Kd.C (Kd.int .u64) w A l.length l) (hc : l.length ≤ c) (hok : ∀ x ∈ l, 0 ≤ x ∧ x < 1000000000) (hlen : l.length ≤ 1000000) (hne : 0 < l.length) :
    Calls Tryd.prog 40 #[.agg #[.bool neg, .slice A l.length c]] w fun e w' =>
      e = .returned (textOut neg l) ∧ Below w.heap.size w w' := by
  have hu51 := Tryd.underlying51
  have HR := Lib.hid hr
  have HG := Lib.hid hG
  have HOK := Lib.hid hok
  clear hr hG hok
  have hne0 : ((l.length : Int) == 0) = false := beq_eq_false_iff_ne.2 (by omega)
  go_enter Tryd.func40, Tryd.ntmps40
  go_wp2_with fail
  obtain ⟨W2, hW2⟩ : ∃ W2, W2 = ((w.alloc (Obj.cells #[Value.bool neg, Value.slice A l.length c] 51)).alloc (Obj.cells #[Value.pointer none, Value.slice none 0 0] 83)) := ⟨_, rfl⟩
  have hz2 : W2.heap.size = w.heap.size + 2 := by rw [hW2]; simp
  have hbl2 : Below w.heap.size w W2 := by rw [hW2]; exact ((Below.refl _ _).alloc (Nat.le_refl _) _).alloc (by simp) _
  have hb0 : W2.heap[w.heap.size]? = some (.cells #[.bool neg, .slice A l.length c] 51 (0, 0)) := by rw [hW2]; exact (Lib.alloc_old _ _ _ (by simp)).trans (heap_alloc_new w _)
  have hb1 : W2.heap[w.heap.size + 1]? = some (.cells #[.pointer none, .slice none 0 0] 83 (0, 0)) := by
    rw [hW2]
    have := heap_alloc_new (w.alloc (Obj.cells #[Value.bool neg, Value.slice A l.length c] 51)) (Obj.cells #[Value.pointer none, Value.slice none 0 0] 83)
    rwa [show (w.alloc (Obj.cells #[Value.bool neg, Value.slice A l.length c] 51)).heap.size = w.heap.size + 1 by simp] at this
  rw [← hW2]
  have HS : Hid (Lib.IsBuilderF 83 5 (w.heap.size + 1) (w.heap.size + 1) (Lib.byteCells (textR (l.reverse.take 0))) W2) := Lib.hid (builder_new (Nat.le_refl _) hb1)
  have HB0 := Lib.hid hb0
  have HBL := Lib.hid hbl2
  have HZ := Lib.hid hz2
  have hmax : ∀ k, (textR (l.reverse.take k)).length ≤ 9000000 := fun k => by
    have h1 := textR_len (l.reverse.take k) (fun x hx => HOK.out x (by have := List.mem_of_mem_take hx; simpa using this))
    have h2 : (l.reverse.take k).length ≤ l.length := by rw [List.length_take, List.length_reverse]; omega
    omega
  have HM := Lib.hid hmax
  clear hW2 hb0 hb1 hbl2 hz2 hmax
  go_loopw [14] (fun v14 wr => ∃ i : Nat, i ≤ l.length ∧ v14 = .int .i64 i ∧ Hid (Lib.IsBuilderF 83 5 (w.heap.size + 1) (w.heap.size + 1) (Lib.byteCells (textR (l.reverse.take i))) wr) ∧ Hid (Below (w.heap.size + 1) W2 wr)) (fun v14 _ => l.length - (intOf v14).toNat)
  case atStart => exact ⟨0, Nat.zero_le _, rfl, HS, Lib.hid (Below.refl _ _)⟩
  case round =>
    obtain ⟨i, hi, rfl, HB, HW⟩ := hrel
    have hx0 : wr.cell? ⟨w.heap.size, 0, none⟩ = some (.bool neg) := (HW.out.cell (p := ⟨w.heap.size, 0, none⟩) (by simp)).trans (by simp [World.cell?, HB0.out])
    have hx1 : wr.cell? ⟨w.heap.size, 1, none⟩ = some (.slice A l.length c) := (HW.out.cell (p := ⟨w.heap.size, 1, none⟩) (by simp)).trans (by simp [World.cell?, HB0.out])
    have hz : w.heap.size + 1 ≤ wr.heap.size := by have := HW.out.size; have := HZ.out; omega
    by_cases hlt : i < l.length
    · obtain ⟨ad, eA, hcell⟩ := Kd.at_int HR.out ((l.length : Int) - 1 - i) (by omega) (by omega)
      cases eA
      have hlim := World.block_lt_of_cell? w _ hcell
      have hcell2 : wr.cell? (ad.add ((l.length : Int) - 1 - i).toNat) = some (.int .u64 (rd l ((l.length : Int) - 1 - i))) := ((HW.out.cell (by omega)).trans (HBL.out.cell hlim)).trans hcell
      rw [show ((l.length : Int) - 1 - i).toNat = l.length - 1 - i by omega] at hcell2
      clear hcell hlim
      have hmem : rd l ((l.length : Int) - 1 - i) ∈ l := by
        rw [rd, List.getD_eq_getElem?_getD, List.getElem?_eq_getElem (by omega)]
        exact List.getElem_mem _
      have hv := HOK.out _ hmem
      have hstep := textR_step l i hlt
      obtain ⟨u, hu⟩ : ∃ u : Nat, rd l ((l.length : Int) - 1 - i) = (u : Int) := ⟨(rd l ((l.length : Int) - 1 - i)).toNat, by omega⟩
      rw [hu] at hcell2 hv hstep
      rw [Int.toNat_natCast] at hstep
      have HST := Lib.hid hstep
      clear hu hmem hstep
      have h9 := len9 (u := u) (by omega)
      have hgok := (GOK.below HG.out (HBL.out.trans (Below.mono HW.out (by omega)))).2.2
      have HGK := Lib.hid hgok
      clear hgok
      by_cases h0 : 0 < i
      · have hd : decide (0 < i) = true := decide_eq_true h0
        rw [if_pos h0] at HST
        go_wp2_with (go_at_call 59; refine (format_uint u (by omega) _ HGK.out).mono ?_; rintro e w3 ⟨rfl, hb3⟩)
        rw [show (9 : Int) - ((Lib.decDigits u).length : Int) = ((9 - (Lib.decDigits u).length : Nat) : Int) by omega]
        have HB3 := Lib.hid (isb_below HB.out hb3)
        have Hb3 := Lib.hid (Below.mono hb3 hz)
        have hz3 : w.heap.size + 1 ≤ w3.heap.size := Nat.le_trans hz hb3.size
        clear hb3
        refine (Tryd.strings_Repeat ⟨#[48]⟩ (9 - (Lib.decDigits u).length) w3 (by omega) (show 1 * (9 - (Lib.decDigits u).length) ≤ 140737488355328 by omega)).mono ?_
        rintro e w4 ⟨rfl, hb4⟩
        rw [show Lib.repeatL (⟨#[48]⟩ : ByteArray).data.toList (9 - (Lib.decDigits u).length) = List.replicate (9 - (Lib.decDigits u).length) 48 from repeat_zero _]
        have HB4 := Lib.hid (isb_below HB3.out hb4)
        have Hb4 := Lib.hid (Hb3.out.trans (Below.mono hb4 hz3))
        have hz4 : w.heap.size + 1 ≤ w4.heap.size := Nat.le_trans hz3 hb4.size
        clear hb4
        go_wp2_with fail
        refine (write_string _ _ _ ⟨(List.replicate (9 - (Lib.decDigits u).length) (48 : UInt8)).toArray⟩ w4 HB4.out (by have := HM.out i; rw [Lib.byteCells_length, Lib.size_eq, List.toList_toArray, List.length_replicate]; omega) hz4).mono ?_
        rintro e w5 ⟨rfl, h5, hb5⟩
        have HB5 := Lib.hid h5
        have Hb5 := Lib.hid (Hb4.out.trans hb5)
        have hz5 : w.heap.size + 1 ≤ w5.heap.size := Nat.le_trans hz4 hb5.size
        clear h5 hb5
        go_wp2_with fail
        refine (write_string _ _ _ ⟨(Lib.decDigits u).toArray⟩ w5 (Or.inr HB5.out) (by have := HM.out i; rw [List.length_append, Lib.byteCells_length, Lib.strCells_length, Lib.size_eq, Lib.size_eq, List.toList_toArray, List.toList_toArray, List.length_replicate]; omega) hz5).mono ?_
        rintro e w6 ⟨rfl, h6, hb6⟩
        have e6 : Lib.byteCells (textR (l.reverse.take i)) ++ Lib.strCells ⟨(List.replicate (9 - (Lib.decDigits u).length) (48 : UInt8)).toArray⟩ ++ Lib.strCells ⟨(Lib.decDigits u).toArray⟩ = Lib.byteCells (textR (l.reverse.take (i + 1))) := by
          rw [HST.out, Lib.strCells_eq, Lib.strCells_eq, ← Lib.byteCells_append, ← Lib.byteCells_append, List.append_assoc]
          rfl
        rw [e6] at h6
        have HB6 : Hid (Lib.IsBuilderF 83 5 (w.heap.size + 1) (w.heap.size + 1) (Lib.byteCells (textR (l.reverse.take (i + 1)))) w6) := Lib.hid (Or.inr h6)
        have HW6 := Lib.hid (HW.out.trans (Hb5.out.trans hb6))
        clear e6 h6 hb6
        go_wp2
        go_roundw
        case rel => exact ⟨i + 1, by omega, by go_num, HB6, HW6⟩
        case measure => simp [intOf]; omega
      · have hd : decide (0 < i) = false := decide_eq_false h0
        rw [if_neg h0] at HST
        go_wp2_with (go_at_call 59; refine (format_uint u (by omega) _ HGK.out).mono ?_; rintro e w3 ⟨rfl, hb3⟩)
        have HB3 := Lib.hid (isb_below HB.out hb3)
        have Hb3 := Lib.hid (Below.mono hb3 hz)
        have hz3 : w.heap.size + 1 ≤ w3.heap.size := Nat.le_trans hz hb3.size
        clear hb3
        refine (write_string _ _ _ ⟨(Lib.decDigits u).toArray⟩ w3 HB3.out (by have := HM.out i; rw [Lib.byteCells_length, Lib.size_eq, List.toList_toArray]; omega) hz3).mono ?_
        rintro e w6 ⟨rfl, h6, hb6⟩
        have e6 : Lib.byteCells (textR (l.reverse.take i)) ++ Lib.strCells ⟨(Lib.decDigits u).toArray⟩ = Lib.byteCells (textR (l.reverse.take (i + 1))) := by
          rw [HST.out, Lib.strCells_eq, ← Lib.byteCells_append]
        rw [e6] at h6
        have HB6 : Hid (Lib.IsBuilderF 83 5 (w.heap.size + 1) (w.heap.size + 1) (Lib.byteCells (textR (l.reverse.take (i + 1)))) w6) := Lib.hid (Or.inr h6)
        have HW6 := Lib.hid (HW.out.trans (Hb3.out.trans hb6))
        clear e6 h6 hb6
        go_wp2
        go_roundw
        case rel => exact ⟨i + 1, by omega, by go_num, HB6, HW6⟩
        case measure => simp [intOf]; omega
    · obtain rfl : i = l.length := by omega
      rw [show l.reverse.take l.length = l.reverse from List.take_of_length_le (by simp)] at HB
      have HB' : Hid (Lib.IsBuilderF 83 5 (w.heap.size + 1) (w.heap.size + 1) (Lib.byteCells (textL l)) wr) := HB
      have HWW := Lib.hid (HBL.out.trans (Below.mono HW.out (by omega)))
      obtain ⟨n, hn⟩ : ∃ n, (textL l).length = n := ⟨_, rfl⟩
      have HN := Lib.hid hn
      clear HB HW hn
      by_cases h4 : 400 < n
      · have hd : decide (400 < n) = true := decide_eq_true h4
        go_wp2_with (go_at_call 62; refine (Tryd.Builder_Len_f _ _ _ _ HB'.out).mono ?_; rintro e w' ⟨rfl, rfl⟩; rw [Lib.byteCells_length, HN.out])
        go_ret2
        refine ⟨?_, HWW.out⟩
        unfold textOut
        rw [HN.out, if_pos h4]
        rfl
      · have hd : decide (400 < n) = false := decide_eq_false h4
        cases neg with
        | true =>
          go_wp2_with (first | (go_at_call 62; refine (Tryd.Builder_Len_f _ _ _ _ HB'.out).mono ?_; rintro e w' ⟨rfl, rfl⟩; rw [Lib.byteCells_length, HN.out]) | (go_at_call 63; refine (Tryd.Builder_String_any_f _ _ _ _ HB'.out hz).mono ?_; rintro e w' ⟨rfl, _, hb⟩))
          · exfalso
            have := HN.out
            omega
          · go_ret2
            refine ⟨?_, HWW.out.trans (Below.mono hb (by omega))⟩
            unfold textOut
            rw [HN.out, if_neg h4, if_pos rfl, ← cat45]
            rfl
        | false =>
          go_wp2_with (first | (go_at_call 62; refine (Tryd.Builder_Len_f _ _ _ _ HB'.out).mono ?_; rintro e w' ⟨rfl, rfl⟩; rw [Lib.byteCells_length, HN.out]) | (go_at_call 63; refine (Tryd.Builder_String_any_f _ _ _ _ HB'.out hz).mono ?_; rintro e w' ⟨rfl, _, hb⟩))
          go_ret2
          refine ⟨?_, HWW.out.trans (Below.mono hb (by omega))⟩
          unfold textOut
          rw [HN.out, if_neg h4]
          rfl
set_option maxRecDepth 100000 in
theorem text_nil (neg : Bool) (A : Option Addr) (c : Nat) (w : World) :
    Calls Tryd.prog 40 #[.agg #[.bool neg, .slice A 0 c]] w fun e w' => e = .returned (.tuple #[.string ⟨#[48]⟩, .int .i64 0]) ∧ Below w.heap.size w w' := by
  have hu51 := Tryd.underlying51
  go_enter Tryd.func40, Tryd.ntmps40
  go_wp2
  go_ret2
  exact ⟨rfl, (Below.refl _ _).alloc (Nat.le_refl _) _⟩
end Go.Proofs.YtdnjlmoggnbknaaDoor.Ext
