/- The abstract layer: a region with two events in either order, of which one's followers stand apart. No conditions. -/
import Derived.Test.YtieaiheejhmbfaaGreatDoorPk2
namespace Go.Proofs.YtieaiheejhmbfaaGreatDoor.ML
open Go.RowKit
set_option linter.unusedVariables false
set_option linter.unusedSimpArgs false
section
variable {P : Program} {ro : RO} {ops : Array Oper} {Q : Post} {tm : Tm} {M : Mem} {H : Heap} {K K' : Tm → Mem → Heap → Prop}
/-- Two events a, b in either order: two walks. All other events lean on both; what leans on one may stand apart from the other. -/
def chk3 (ops : Array Oper) (a b : Nat) (l l' : List Nat) (tab : List (List Nat)) : Bool :=
  sepB ops tab (fun i j => i == a && (j == b || (tab.getD j []).contains b)) l && sepB ops tab (fun i j => i == b && (j == a || (tab.getD j []).contains a)) l' && linB ops l && tabB ops tab && l.length == ops.size && (List.range ops.size).all (fun i => l.contains i) && (List.range ops.size).all (fun j => (dirs ops j).all fun d => d < ops.size) && ndB l && l.all (fun i => i < ops.size)
    && ndB l' && l'.all (fun i => l.contains i) && l.all (fun i => l'.contains i) && l.all (fun i => (match ops[i]? with | some o => !isEv o.op | none => false) || i == a || i == b || ((tab.getD i []).contains a && (tab.getD i []).contains b)) && l.contains a && l.contains b && (a != b)
theorem AW.regionD3 {id : Nat} {l0 : List Oper} (hx : P.follows .mixedOrders = true) (a b : Nat) (l l' : List Nat) (tab : List (List Nat)) (hc : chk3 l0.toArray a b l l' tab = true) (h : AT P ro l0.toArray true (outQ Q) l tm M H) (h' : AT P ro l0.toArray true (outQ Q) l' tm M H) : AW P ro (.region id l0.toArray true) Q tm M H := by
  unfold chk3 at hc
  simp only [Bool.and_eq_true, beq_iff_eq, List.all_eq_true, List.mem_range, Bool.or_eq_true, decide_eq_true_eq, bne_iff_ne] at hc
  obtain ⟨⟨⟨⟨⟨⟨⟨⟨⟨⟨⟨⟨⟨⟨⟨c1, c1'⟩, c2⟩, c3⟩, c4⟩, c5⟩, c7⟩, c8⟩, c9⟩, d1⟩, d2⟩, d3⟩, d4⟩, d5⟩, d6⟩, d7⟩ := hc
  let X : List Nat → Tm → Mem → Heap → Prop := fun l tm M H =>
    (∃ l1, (∀ i, i ∈ l ↔ i ∈ l1) ∧ l1.Nodup ∧ sepB l0.toArray tab (fun _ _ => false) l1 = true ∧ AT P ro l0.toArray true (outQ Q) l1 tm M H) ∨
    ∃ l1 l2, (∀ i, i ∈ l ↔ i ∈ l1) ∧ (∀ i, i ∈ l ↔ i ∈ l2) ∧ l1.Nodup ∧ l2.Nodup ∧ sepB l0.toArray tab (fun i j => i == a && (j == b || (tab.getD j []).contains b)) l1 = true ∧ sepB l0.toArray tab (fun i j => i == b && (j == a || (tab.getD j []).contains a)) l2 = true ∧
      (∀ i ∈ l, (match l0.toArray[i]? with | some o => isEv o.op = false | none => False) ∨ i = a ∨ i = b ∨ ((tab.getD i []).contains a = true)) ∧ a ∈ l ∧ b ∈ l ∧ AT P ro l0.toArray true (outQ Q) l1 tm M H ∧ AT P ro l0.toArray true (outQ Q) l2 tm M H
  have me : ∀ {l l1 : List Nat} (i : Nat), l.Nodup → l1.Nodup → (∀ i, i ∈ l ↔ i ∈ l1) → ∀ k, k ∈ l.erase i ↔ k ∈ l1.erase i := fun i h1 h2 h k => by rw [h1.mem_erase_iff, h2.mem_erase_iff, h k]
  have hfalse : ∀ {l1 : List Nat} {p : Nat} {f : Nat → Bool}, l1.Nodup → sepB l0.toArray tab (fun i j => i == p && f j) l1 = true → sepB l0.toArray tab (fun _ _ => false) (l1.erase p) = true := fun {l1 p f} hn hs =>
    sepB_mono (fun i hi j hj he => by
      simp only [Bool.and_eq_true, beq_iff_eq] at he
      rw [he.1, hn.mem_erase_iff] at hi
      exact absurd rfl hi.1) (sepB_erase hs p)
  refine AW.regionX (tab := tab) (X := X) hx (fun l i tm M H hw hA hnd hi hr => ?_) (fun tm M H hA => ?_) true l c2 c3 c4 c5 c7 c8 c9 (.inr ⟨l, l', fun i => Iff.rfl, fun i => ⟨fun hi => List.contains_iff_mem.1 (d3 i hi), fun hi => List.contains_iff_mem.1 (d2 i hi)⟩, ndB_nodup c8, ndB_nodup d1, c1, c1', fun i hi => ?_, List.contains_iff_mem.1 d5, List.contains_iff_mem.1 d6, h, h'⟩)
  · rcases hA with ⟨l1, e1, n1, s1, A1⟩ | ⟨l1, l2, e1, e2, n1, n2, s1, s2, ot, ha, hb, A1, A2⟩
    · obtain ⟨o, ho, hst, _⟩ := AT.first (.inl rfl) s1 n1 ((e1 i).1 hi) (fun j hj => ⟨rfl, hr j ((e1 j).2 hj)⟩) A1
      exact ⟨o, ho, hst.mono fun _ _ _ _ h => .inl ⟨l1.erase i, me i hnd n1 e1, n1.erase i, sepB_erase s1 i, h⟩⟩
    · by_cases ia : i = a
      · subst ia
        obtain ⟨o, ho, hst, _⟩ := AT.first (.inl rfl) s1 n1 ((e1 i).1 hi) (fun j hj => ⟨by rw [hr b hb]; simp [d7], hr j ((e1 j).2 hj)⟩) A1
        exact ⟨o, ho, hst.mono fun _ _ _ _ h => .inl ⟨l1.erase i, me i hnd n1 e1, n1.erase i, hfalse (f := fun j => j == b || (tab.getD j []).contains b) n1 s1, h⟩⟩
      by_cases ib : i = b
      · subst ib
        obtain ⟨o, ho, hst, _⟩ := AT.first (.inl rfl) s2 n2 ((e2 i).1 hi) (fun j hj => ⟨by rw [hr a ha]; simp; intro _ e; exact d7 e.symm, hr j ((e2 j).2 hj)⟩) A2
        exact ⟨o, ho, hst.mono fun _ _ _ _ h => .inl ⟨l2.erase i, me i hnd n2 e2, n2.erase i, hfalse (f := fun j => j == a || (tab.getD j []).contains a) n2 s2, h⟩⟩
      obtain ⟨o, ho, _, p1⟩ := AT.first (.inl rfl) s1 n1 ((e1 i).1 hi) (fun j hj => ⟨by rw [hr b hb]; simp [ib], hr j ((e1 j).2 hj)⟩) A1
      obtain ⟨o', ho', _, p2⟩ := AT.first (.inl rfl) s2 n2 ((e2 i).1 hi) (fun j hj => ⟨by rw [hr a ha]; simp [ia], hr j ((e2 j).2 hj)⟩) A2
      rw [ho] at ho'; cases ho'
      rcases ot i hi with hp | hp | hp | hp
      · rw [ho] at hp
        obtain ⟨v, hv, k1⟩ := p1 hp
        obtain ⟨v', hv', k2⟩ := p2 hp
        obtain rfl := PVG.uniq hw hv hv'
        exact ⟨o, ho, ST.ofG hv (.inr ⟨l1.erase i, l2.erase i, me i hnd n1 e1, me i hnd n2 e2, n1.erase i, n2.erase i, sepB_erase s1 i, sepB_erase s2 i, fun k hk => ot k (List.mem_of_mem_erase hk), hnd.mem_erase_iff.2 ⟨fun e => ia e.symm, ha⟩, hnd.mem_erase_iff.2 ⟨fun e => ib e.symm, hb⟩, k1, k2⟩)⟩
      · exact absurd hp ia
      · exact absurd hp ib
      · rw [hr a ha] at hp; cases hp
  · rcases hA with ⟨l1, e1, n1, s1, A1⟩ | ⟨l1, l2, e1, e2, n1, n2, s1, s2, ot, ha, hb, A1, A2⟩
    · have : l1 = [] := List.eq_nil_iff_forall_not_mem.2 fun i hi => by have := (e1 i).2 hi; simp at this
      subst this; exact A1
    · simp at ha
  · rcases d4 i hi with ((h | h) | h) | h
    · left
      split at h
      · simpa using h
      · cases h
    · exact .inr (.inl h)
    · exact .inr (.inr (.inl h))
    · exact .inr (.inr (.inr h.1))
end
end Go.Proofs.YtieaiheejhmbfaaGreatDoor.ML
