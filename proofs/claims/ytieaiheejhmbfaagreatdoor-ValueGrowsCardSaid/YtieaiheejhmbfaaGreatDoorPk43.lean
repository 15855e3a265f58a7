/- The plain law of ValueGrows: what is enumerated fits, ascends and does not repeat. No conditions. -/
import Derived.Test.YtieaiheejhmbfaaGreatDoorPk39
import Derived.Test.YtieaiheejhmbfaaGreatDoorPk42
import Derived.Test.YtieaiheejhmbfaaGreatDoorPk20
namespace Go.Proofs.YtieaiheejhmbfaaGreatDoor.ML
open Go.RowKit
set_option linter.unusedVariables false
set_option linter.unusedSimpArgs false
/-- The state of the law's visit. -/
structure GS where
  L : List VT
  la : Int
  A : Option Addr
  c : Nat
  cs : List Value
  e : Nat
def GdG (M : Mem) (s : GS) : Prop := FlV M s.cs s.L ∧ s.L.length < 40
theorem gdg_up : GdM GdG := fun _ _ _ h g => ⟨g.1.monoC h, g.2⟩
def badG (d : List DT) (t mo : Int) (s : GS) (v : VT) : Prop := (cellsF d t v).2 ≠ 0 ∨ (cellsF d t v).1 < s.la ∨ mo < (cellsF d t v).1 ∨ ∃ i, ∃ h : i < s.L.length, same s.L[i] v = true
def fG (d : List DT) (t mo : Int) (s : GS) (v : VT) (s' : GS) (b : Bool) : Prop :=
  (b = false ∧ ((badG d t mo s v ∧ s'.e = 1) ∨ (¬ badG d t mo s v ∧ s'.e ≠ 1))) ∨ (b = true ∧ ¬ badG d t mo s v ∧ s'.L = s.L ++ [v] ∧ s'.la = (cellsF d t v).1 ∧ s'.e ≠ 1)
theorem gr {d : List DT} {t mo : Int} : ∀ (rest : List VT) (s s' : GS) (b : Bool), (∀ v ∈ rest, cellsF d t v = (((ceV v : Nat) : Int), 0) ∧ ((ceV v : Nat) : Int) ≤ mo ∧ s.la ≤ ((ceV v : Nat) : Int)) → rest.Pairwise (fun v w => ceV v ≤ ceV w) → rest.Nodup → (∀ x ∈ s.L, ∀ v ∈ rest, x ≠ v) → s.e ≠ 1 → sr (fG d t mo) s rest s' b → s'.e ≠ 1
  | [], s, s', b, _, _, _, _, he, h => by rw [h.1]; exact he
  | v :: l, s, s', b, hc, hp, hn, hd, he, h => by
    have hv := hc v (List.mem_cons_self ..)
    have hnb : ¬ badG d t mo s v := by
      rintro (hh | hh | hh | ⟨i, hi, hh⟩)
      · rw [hv.1] at hh; exact hh rfl
      · rw [hv.1] at hh; dsimp only at hh; omega
      · rw [hv.1] at hh; dsimp only at hh; omega
      · exact hd _ (List.getElem_mem hi) v (List.mem_cons_self ..) (same_eq _ _ hh)
    rcases h with ⟨s1, h1, h2⟩ | ⟨_, h1⟩
    · rcases h1 with ⟨h1, _⟩ | ⟨_, _, e1, e2, e3⟩
      · cases h1
      · rw [List.pairwise_cons] at hp
        rw [List.nodup_cons] at hn
        refine gr l s1 s' b (fun w hw => ⟨(hc w (List.mem_cons_of_mem _ hw)).1, (hc w (List.mem_cons_of_mem _ hw)).2.1, ?_⟩) hp.2 hn.2 (fun x hx w hw => ?_) e3 h2
        · rw [e2, hv.1]
          have := hp.1 w hw
          dsimp only
          omega
        · rw [e1] at hx
          rcases List.mem_append.1 hx with hx | hx
          · exact hd x hx w (List.mem_cons_of_mem _ hw)
          · rw [List.mem_singleton.1 hx]
            intro e
            subst e
            exact hn.1 hw
    · rcases h1 with ⟨_, ⟨hb, _⟩ | ⟨_, h⟩⟩ | ⟨h1, _⟩
      · exact absurd hb hnb
      · exact h
      · cases h1
theorem gr_end {d : List DT} (hck : checkF d = 0) {t mo : Int} (hm : 0 ≤ mo ∧ mo ≤ 4) {s' : GS} {b : Bool} (h : sr (fG d t mo) ⟨[], 0, none, 0, [], 0⟩ (allV d t mo) s' b) : s'.e ≠ 1 := by
  by_cases h0 : tableF d t = 0
  · obtain ⟨h1, ht⟩ := tableF_ok h0
    have hT := (checkF_ok hck).2.2.2.1
    obtain ⟨q, rfl⟩ : ∃ q : Nat, mo = q := ⟨mo.toNat, by omega⟩
    rw [all_alQ hck ht] at h
    refine gr _ _ _ _ (fun v hv => ?_) (al_up d t (q + 1)) (al_nodup d t (q + 1)) (fun x hx => by simp at hx) (by simp) h
    obtain ⟨j, hj, hv⟩ := List.mem_flatMap.1 hv
    rw [List.mem_range] at hj
    have hz := ex_sz d _ _ _ _ hv
    have hty := ex_ty d hT _ _ _ _ ht hv
    refine ⟨cells_ty2 h0 hty (by omega), by omega, ?_⟩
    show (0 : Int) ≤ _
    omega
  · rw [al_bad h0] at h
    rw [h.1]
    simp
end Go.Proofs.YtieaiheejhmbfaaGreatDoor.ML
