--
import Derived.Test.YtdnjlmoggnbknaaDoorRf
/- The document's integers, part five: DivMod by long division, From, Gcd. No condition. -/
namespace Go.Proofs.YtdnjlmoggnbknaaDoor.PInt
open Go.RowKit Go.Proofs.YtdnjlmoggnbknaaDoor.Ext Go.Proofs.YtdnjlmoggnbknaaDoorW.PrintWords Go.Proofs.YtdnjlmoggnbknaaDoor.Dec
set_option linter.unusedVariables false
set_option linter.unusedSimpArgs false

theorem rnum_nat (n : Nat) : rnum (n : Int) = (false, rn n) := by
  unfold rnum
  rw [decide_eq_false (by omega), Int.natAbs_natCast]
theorem make0_nat (l : List Int) (n : Nat) (ho : L1.okL l) (h : rl l = (n : Int)) : Ev (fun k => cellarerref02_make0.f k false l) (false, rn n) := by
  have e := make0_ev false l ho
  rw [h, Int.toNat_natCast, show sg false n = (n : Int) from if_neg (by decide), rnum_nat] at e
  exact e
/-- One digit of the quotient: counted by subtraction. -/
theorem rdm_count (na : Bool) (A : List Int) (nb : Bool) (b : Nat) (hb : 0 < b) (hbl : b < p10 1000) (q : List Int) (i : Int) (hq : q.length ≤ 100000) (R : Bool × List Int × Bool × List Int) :
    ∀ (m : Nat), m < p10 1000 → ∀ c : Int, 0 ≤ c → c + ((m / b : Nat) : Int) ≤ 100 → Ev (fun k => cellarerref02_DivMod.l0 k (q ++ [c + ((m / b : Nat) : Int)]) (wrap64 (i + 1)) na A nb (rn b) false (rn (m % b))) R →
      Ev (fun k => cellarerref02_DivMod.l1 k q i c na A nb (rn b) false (rn m)) R := by
  intro m
  induction m using Nat.strongRecOn with
  | _ m ih =>
    intro hm c c0 c1 h
    by_cases hlt : m < b
    · rw [Nat.div_eq_of_lt hlt, Nat.mod_eq_of_lt hlt] at h
      rw [show c + ((0 : Nat) : Int) = c by omega] at h
      refine Ev.step (fun k => by rw [cellarerref02_DivMod.l1]) (Ev.bind (rcmp_ev m b hm) ?_)
      rw [cmpI_lt (by omega)]
      refine Ev.congr (fun k => ?_) h
      rw [if_neg (by decide), if_pos (by omega)]
    · have hle : b ≤ m := by omega
      have d1 : m / b = (m - b) / b + 1 := Nat.div_eq_sub_div hb hle
      have d2 : m % b = (m - b) % b := Nat.mod_eq_sub_mod hle
      obtain ⟨l, l1, l2, _, l4⟩ := rplus_ev (rn m) (rn b) (-1) 1000 (.inr rfl) ((rn_len 1000 _).2 hm) ((rn_len 1000 _).2 hbl) (by decide) (rn_ok _) (rn_ok _) (by rw [rl_rn, rl_rn]; omega)
      have e := make0_nat l (m - b) l1 (by rw [l2, rl_rn, rl_rn]; omega)
      rw [d1] at c1
      rw [d1, d2] at h
      have ih' := ih (m - b) (by omega) (by omega) (c + 1) (by omega) (by omega) (by
        rw [show c + 1 + (((m - b) / b : Nat) : Int) = c + (((m - b) / b + 1 : Nat) : Int) by omega]
        exact h)
      refine Ev.step (fun k => by rw [cellarerref02_DivMod.l1]) (Ev.bind (rcmp_ev m b hm) ?_)
      have hge : cmpI (m : Int) b ≥ 0 := by
        unfold cmpI
        rw [if_neg (by omega)]
        split <;> decide
      refine Ev.congr (fun k => if_pos hge) (Ev.bind l4 (Ev.bind e ?_))
      refine Ev.congr (fun k => ?_) ih'
      have c2 : c + 1 ≤ 9223372036854775807 := by have := Int.natCast_nonneg ((m - b) / b); omega
      rw [wrap_ok (i := c + 1) (by omega) c2]
theorem dm_step (P b d : Nat) (hb : 0 < b) : (10 * P + d) / b = 10 * (P / b) + (10 * (P % b) + d) / b ∧ (10 * P + d) % b = (10 * (P % b) + d) % b := by
  have h := Nat.div_add_mod P b
  have e : 10 * P + d = b * (10 * (P / b)) + (10 * (P % b) + d) := by
    have : b * (10 * (P / b)) = 10 * (b * (P / b)) := Nat.mul_left_comm _ _ _
    omega
  constructor
  · rw [e, Nat.mul_add_div hb]
  · rw [e, Nat.mul_add_mod]
theorem rl_snoc (q : List Int) (e : Int) : rl (q ++ [e]) = 10 * rl q + e := by
  rw [rl_app, rl_cons, rl_nil, List.length_singleton, List.length_nil, L1.pw_succ, L1.pw_zero]
  omega
theorem rdm_digits (na : Bool) (A : List Int) (nb : Bool) (b : Nat) (hb : 0 < b) (hbl : b < p10 999) (oA : L1.okL A) (lA : A.length ≤ 1000) (R : Bool × List Int × Bool × List Int)
    (fin : ∀ q : List Int, L1.okL q → q.length ≤ 1000 → rl q = (((rl A).toNat / b : Nat) : Int) → Ev (fun k => cellarerref02_DivMod.l0 k q (A.length : Int) na A nb (rn b) false (rn ((rl A).toNat % b))) R) :
    ∀ (r p : List Int), A = p ++ r → ∀ q : List Int, L1.okL q → q.length = p.length → rl q = (((rl p).toNat / b : Nat) : Int) →
      Ev (fun k => cellarerref02_DivMod.l0 k q (p.length : Int) na A nb (rn b) false (rn ((rl p).toNat % b))) R := by
  have h10 : p10 1000 = p10 999 * p10 1 := p10_mul 999 1
  rw [show p10 1 = 10 from rfl] at h10
  intro r
  induction r with
  | nil =>
    intro p hA q oq lq hq
    rw [List.append_nil] at hA
    subst hA
    exact fin q oq (by omega) hq
  | cons d r ih =>
    intro p hA q oq lq hq
    have hla : A.length = p.length + (r.length + 1) := by rw [hA]; simp
    obtain ⟨o1, o2⟩ := L1.okL_app (by rw [← hA]; exact oA : L1.okL (p ++ d :: r))
    have hd := (L1.okL_cons o2).1
    have hp := rl_nonneg o1
    obtain ⟨P, hP⟩ : ∃ P : Nat, P = (rl p).toNat := ⟨_, rfl⟩
    obtain ⟨D, hD⟩ : ∃ D : Nat, D = d.toNat := ⟨_, rfl⟩
    have hD' : d = (D : Int) := by omega
    have hmod := Nat.mod_lt P hb
    rw [← hP] at hq ⊢
    obtain ⟨s1, s2⟩ := dm_step P b D hb
    obtain ⟨m, hm⟩ : ∃ m : Nat, m = 10 * (P % b) + D := ⟨_, rfl⟩
    rw [← hm] at s1 s2
    have hml : m < 10 * b := by omega
    have hdig : m / b < 10 := Nat.div_lt_of_lt_mul (by omega)
    have hP' : (rl (p ++ [d])).toNat = 10 * P + D := by rw [rl_snoc]; omega
    have hmp : m < p10 1000 := by omega
    have lr : (rn (P % b)).length ≤ 1000 := (rn_len 1000 _).2 (by omega)
    have hrd : rd A (p.length : Int) = d := rd_mid hA rfl
    have ih' := ih (p ++ [d]) (by rw [hA]; simp) (q ++ [((m / b : Nat) : Int)]) (L1.okL_mk oq (fun z hz => by rw [List.mem_singleton] at hz; subst hz; exact ⟨Int.natCast_nonneg _, Int.ofNat_lt.2 hdig⟩)) (by simp [lq]) (by rw [rl_snoc, hq, hP', s1]; omega)
    rw [hP', s2] at ih'
    have hw : wrap64 ((p.length : Int) + 1) = ((p ++ [d]).length : Int) := by rw [wrap_ok (by omega) (by omega)]; simp
    rw [← hw] at ih'
    have e := make0_nat (rn (P % b) ++ [d]) m (L1.okL_mk (rn_ok _) (fun z hz => by rw [List.mem_singleton] at hz; subst hz; exact hd)) (by rw [rl_snoc, rl_rn]; omega)
    have ec := rdm_count na A nb b hb (by omega) q (p.length : Int) (by omega) R m hmp 0 (by decide) (by omega) (by rw [Int.zero_add]; exact ih')
    refine Ev.step (f := fun k => (cellarerref02_make0.f k false (rn (P % b) ++ [d])).bind fun bt610 => cellarerref02_DivMod.l1 k q (p.length : Int) 0 na A nb (rn b) bt610.1 bt610.2) (fun k => ?_) (Ev.bind e ec)
    simp only [cellarerref02_DivMod.l0]
    rw [if_pos (by omega), if_pos (by rw [List.length_nil]; omega), Option.bind_some, if_pos (by omega), List.nil_append, if_pos (by omega), hrd]
theorem from_one : cellarerref02_From.f 30 1 = some (rnum 1) := by decide +kernel
theorem rfrom_one : Ev (fun k => cellarerref02_From.f k 1) (rnum 1) :=
  Ev.of (k := 30) (g := fun k => cellarerref02_From.f k 1) (r := rnum 1) (fun k => cellarerref02_From.mono 1 k) from_one
end Go.Proofs.YtdnjlmoggnbknaaDoor.PInt

/- The document's integers, part six: DivMod's end, Gcd; the pure law of IntegerDivides. No condition. -/
namespace Go.Proofs.YtdnjlmoggnbknaaDoor.PInt
open Go.RowKit Go.Proofs.YtdnjlmoggnbknaaDoor.Ext Go.Proofs.YtdnjlmoggnbknaaDoorW.PrintWords Go.Proofs.YtdnjlmoggnbknaaDoor.Dec
set_option linter.unusedVariables false
set_option linter.unusedSimpArgs false

theorem rdm_end (x y : Int) (hx : x.natAbs < lim400) (hy : y.natAbs < lim400) :
    Ev (fun k => cellarerref02_DivMod.j2 k (off1 x y) (rnum x).1 (rnum x).2 (rnum y).1 (rnum y).2 (rnum (sg (decide (x < 0) != decide (y < 0)) (x.natAbs / y.natAbs))).1 (rnum (sg (decide (x < 0) != decide (y < 0)) (x.natAbs / y.natAbs))).2)
      ((rnum (fq x y)).1, (rnum (fq x y)).2, (rnum (fr x y)).1, (rnum (fr x y)).2) := by
  have hq : (fq x y).natAbs < lim400 := Nat.lt_of_le_of_lt (fq_le x y) hx
  have hm := wide_mul hq hy
  have hfr : x - fq x y * y = fr x y := by have := fq_fr x y; omega
  have em := rmul_num (fq x y) y (wide hq) (wide hy)
  have es := rsub_num x (fq x y * y) (wide hx) hm
  rw [hfr] at es
  cases ho : off1 x y with
  | true =>
    have e1 : fq x y = sg (decide (x < 0) != decide (y < 0)) (x.natAbs / y.natAbs) - 1 := by unfold fq; rw [if_pos ho]; rfl
    have hb : (sg (decide (x < 0) != decide (y < 0)) (x.natAbs / y.natAbs)).natAbs < lim400 := by
      rw [sg_abs]
      exact Nat.lt_of_le_of_lt (Nat.div_le_self _ _) hx
    have e2 := rsub_num (sg (decide (x < 0) != decide (y < 0)) (x.natAbs / y.natAbs)) 1 (wide hb) (show (1 : Int).natAbs < p10 1000 from Nat.lt_of_lt_of_le (show 1 < p10 1 by decide) (p10_mono (by decide)))
    rw [← e1] at e2
    refine Ev.step (fun k => by simp only [cellarerref02_DivMod.j2]; first | rw [if_pos rfl] | rw [if_pos trivial]) ?_
    exact Ev.bind rfrom_one (Ev.bind e2 (Ev.bind em (Ev.bind es (Ev.now _))))
  | false =>
    have e1 : fq x y = sg (decide (x < 0) != decide (y < 0)) (x.natAbs / y.natAbs) := by unfold fq; rw [if_neg (by rw [ho]; decide)]
    rw [← e1]
    refine Ev.step (fun k => by simp only [cellarerref02_DivMod.j2]; rw [if_neg (by decide)]) ?_
    exact Ev.bind em (Ev.bind es (Ev.now _))
theorem rdivmod_num (x y : Int) (hx : x.natAbs < lim400) (hy : y.natAbs < lim400) (hy0 : y ≠ 0) :
    Ev (fun k => cellarerref02_DivMod.f k (rnum x).1 (rnum x).2 (rnum y).1 (rnum y).2) ((rnum (fq x y)).1, (rnum (fq x y)).2, (rnum (fr x y)).1, (rnum (fr x y)).2) := by
  have lx := (rn_len 400 _).2 hx
  have hb : y.natAbs < p10 999 := Nat.lt_of_lt_of_le hy (p10_mono (k := 400) (by decide))
  have e := rdm_digits (decide (x < 0)) (rn x.natAbs) (decide (y < 0)) y.natAbs (by omega) hb (rn_ok _) (by omega) ((rnum (fq x y)).1, (rnum (fq x y)).2, (rnum (fr x y)).1, (rnum (fr x y)).2) (by
    intro q oq lq hq
    rw [rl_rn, Int.toNat_natCast] at hq ⊢
    have em := make0_ev (decide (x < 0) != decide (y < 0)) q oq
    rw [hq, Int.toNat_natCast] at em
    refine Ev.step (fun k => by simp only [cellarerref02_DivMod.l0]; rw [if_neg (by omega)]) (Ev.bind em ?_)
    have hend := rdm_end x y hx hy
    by_cases h0 : x.natAbs % y.natAbs = 0
    · have : off1 x y = false := by unfold off1; rw [show decide (x.natAbs % y.natAbs ≠ 0) = false from decide_eq_false (fun h => h h0), Bool.and_false]
      rw [this] at hend
      exact Ev.congr (fun k => if_neg (by rw [h0, rn_zero]; decide)) hend
    · have : off1 x y = (decide (x < 0) != decide (y < 0)) := by unfold off1; rw [show decide (x.natAbs % y.natAbs ≠ 0) = true from decide_eq_true h0, Bool.and_true]
      rw [this] at hend
      refine Ev.congr (fun k => if_pos ?_) hend
      have hl : rn (x.natAbs % y.natAbs) ≠ [] := fun h => h0 (rn_nil.1 h)
      have := List.length_pos_iff.2 hl
      omega) (rn x.natAbs) [] rfl [] (fun z hz => by simp at hz) rfl (by rw [rl_nil]; simp)
  rw [rl_nil, Int.toNat_zero, Nat.zero_mod, rn_zero] at e
  unfold cellarerref02_DivMod.f
  exact e
theorem gcd_fr (x y : Int) : Nat.gcd y.natAbs (fr x y).natAbs = Nat.gcd x.natAbs y.natAbs := by
  have h := fq_fr x y
  apply Nat.dvd_antisymm
  · have d1 := Int.ofNat_dvd_left.2 (Nat.gcd_dvd_left y.natAbs (fr x y).natAbs)
    have d2 := Int.ofNat_dvd_left.2 (Nat.gcd_dvd_right y.natAbs (fr x y).natAbs)
    refine Nat.dvd_gcd (Int.ofNat_dvd_left.1 ?_) (Nat.gcd_dvd_left _ _)
    have d3 := Int.dvd_add (Int.dvd_trans d1 (Int.dvd_mul_left (fq x y) y)) d2
    rwa [h] at d3
  · have d1 := Int.ofNat_dvd_left.2 (Nat.gcd_dvd_left x.natAbs y.natAbs)
    have d2 := Int.ofNat_dvd_left.2 (Nat.gcd_dvd_right x.natAbs y.natAbs)
    refine Nat.dvd_gcd (Nat.gcd_dvd_right _ _) (Int.ofNat_dvd_left.1 ?_)
    have d3 := Int.dvd_sub d1 (Int.dvd_trans d2 (Int.dvd_mul_left (fq x y) y))
    rwa [show x - fq x y * y = fr x y by omega] at d3
theorem rgcd_num : ∀ (n : Nat) (x y : Int), y.natAbs = n → x.natAbs < lim400 → y.natAbs < lim400 →
    Ev (fun k => cellarerref02_Gcd.l0 k (rnum x).1 (rnum x).2 (rnum y).1 (rnum y).2) (rnum ((Nat.gcd x.natAbs y.natAbs : Nat) : Int)) := by
  intro n
  induction n using Nat.strongRecOn with
  | _ n ih =>
    intro x y hn hx hy
    by_cases h0 : y = 0
    · subst h0
      have e := make0_nat (rn x.natAbs) x.natAbs (rn_ok _) (rl_rn _)
      rw [show (0 : Int).natAbs = 0 from rfl, Nat.gcd_zero_right, rnum_nat]
      refine Ev.step (f := fun k => (cellarerref02_make0.f k false (rn x.natAbs)).bind fun bt667 => some (bt667.1, bt667.2)) (fun k => ?_) (Ev.bind e (Ev.now _))
      simp only [cellarerref02_Gcd.l0]
      rw [if_neg (by rw [show (rnum 0).2 = [] from rn_zero]; decide)]
      rfl
    · have hf := fr_lt (x := x) h0
      have e := ih (fr x y).natAbs (by omega) y (fr x y) rfl hy (by omega)
      rw [gcd_fr] at e
      have hl : rn y.natAbs ≠ [] := fun h => h0 (by have := rn_nil.1 h; omega)
      have hp := List.length_pos_iff.2 hl
      have e2 : ((rnum y).2.length : Int) = (rn y.natAbs).length := rfl
      exact Ev.step (fun k => by simp only [cellarerref02_Gcd.l0]; rw [if_pos (by omega)]) (Ev.bind (rdivmod_num x y hx hy h0) e)
end Go.Proofs.YtdnjlmoggnbknaaDoor.PInt

/- The pure law of IntegerDivides: DivMod and Gcd agree with the document's. No condition. -/
namespace Go.Proofs.YtdnjlmoggnbknaaDoor.PInt
open Go.RowKit Go.Proofs.YtdnjlmoggnbknaaDoor.Ext Go.Proofs.YtdnjlmoggnbknaaDoorW.PrintWords Go.Proofs.YtdnjlmoggnbknaaDoor.Dec
set_option linter.unusedVariables false
set_option linter.unusedSimpArgs false

theorem divides_bad (a b : ByteArray) : Ev (fun k => cellarerlaw02_IntegerDivides.j0 k a b (mkS []) (mkS []) 3 (mkS []) 3 true) true := by
  refine Ev.step (f := fun _ => some true) (fun k => ?_) (Ev.now _)
  simp only [cellarerlaw02_IntegerDivides.j0]
  first | rw [if_pos rfl] | rw [if_pos trivial]
  rw [mkS_app, mkS_app, if_pos (by decide), if_pos (by decide), toList_lst, lst_mkS]
  rfl
theorem divides_good (x y : Int) (hx : x.natAbs < lim400) (hy : y.natAbs < lim400) (q r : ByteArray) (e : Int)
    (hz : y = 0 → q = mkS [] ∧ r = mkS [] ∧ e = 24) (hn : y ≠ 0 → q = mkS (T (fq x y)) ∧ r = mkS (T (fr x y)) ∧ e = 0) :
    Ev (fun k => cellarerlaw02_IntegerDivides.j0 k (mkS (T x)) (mkS (T y)) q r e (res ((Nat.gcd x.natAbs y.natAbs : Nat) : Int)).1 (res ((Nat.gcd x.natAbs y.natAbs : Nat) : Int)).2 false) true := by
  have hg : ((Nat.gcd x.natAbs y.natAbs : Nat) : Int).natAbs < p10 1000 := by
    have h1 := gcd_le' x.natAbs y.natAbs
    have h2 : lim400 * 10 ≤ p10 1000 := by
      have := p10_mul 400 1
      rw [show p10 1 = 10 from rfl] at this
      rw [show lim400 = p10 400 from rfl, ← this]
      exact p10_mono (by decide)
    rw [Int.natAbs_natCast]
    omega
  refine Ev.step (fun k => by simp only [cellarerlaw02_IntegerDivides.j0]; rw [if_neg (by decide)]) ?_
  have eg : Ev (fun k => cellarerref02_Gcd.f k (rnum x).1 (rnum x).2 (rnum y).1 (rnum y).2) (rnum ((Nat.gcd x.natAbs y.natAbs : Nat) : Int)) := rgcd_num _ x y rfl hx hy
  refine Ev.bind (rof_T hx) (Ev.bind (rof_T hy) (Ev.bind eg (Ev.bind (agree_ev _ hg) ?_)))
  refine Ev.congr (fun k => if_pos rfl) ?_
  by_cases h0 : y = 0
  · obtain ⟨rfl, rfl, rfl⟩ := hz h0
    subst h0
    exact Ev.congr (f := fun _ => some true) (fun k => by rw [toList_lst, lst_mkS, if_pos T_zero, mkS_app, if_pos (by decide), toList_lst, lst_mkS]; rfl) (Ev.now _)
  · obtain ⟨rfl, rfl, rfl⟩ := hn h0
    have lq := Nat.lt_of_le_of_lt (fq_le x y) hx
    have lr := Nat.lt_trans (fr_lt (x := x) h0).1 hy
    refine Ev.congr (fun k => by rw [toList_lst, lst_mkS, if_neg (fun h => h0 (T_eq_zero.1 h))]) (Ev.bind (rdivmod_num x y hx hy h0) (Ev.bind (rtext_ev (fq x y) (wide lq)) ?_))
    refine Ev.congr (fun k => if_pos rfl) (Ev.bind (rtext_ev (fr x y) (wide lr)) ?_)
    exact Ev.congr (f := fun _ => some true) (fun k => if_pos rfl) (Ev.now _)
/-- The pure law of IntegerDivides. -/
theorem IntegerDivides : cellarerlaw02_IntegerDivides.Pure := by
  intro a b ha hb
  refine Ev.rounds (r := true) ?_
  unfold cellarerlaw02_IntegerDivides.f
  refine Ev.bind awake_ev (Ev.congr (fun k => if_pos rfl) ?_)
  rw [long_ev]
  by_cases hl : (a.size : Int) > 420 ∨ (b.size : Int) > 420
  · rw [decide_eq_true hl]
    exact Ev.congr (f := fun _ => some true) (fun k => by rw [Option.bind_some, if_pos rfl]) (Ev.now _)
  · rw [decide_eq_false hl]
    refine Ev.congr (fun k => by rw [Option.bind_some, if_neg (by decide)]) ?_
    have ra := rvalid_ev a ha
    have rb := rvalid_ev b hb
    cases hv : (vB (lst a) && vB (lst b)) with
    | false =>
      refine Ev.bind (divmod_bad a b ha hb hv) (Ev.bind (gcd_bad a b ha hb hv) (Ev.bind ra ?_))
      cases hva : vB (lst a) with
      | false => exact Ev.congr (fun k => if_neg (by decide)) (divides_bad a b)
      | true =>
        rw [hva, Bool.true_and] at hv
        rw [hv] at rb
        exact Ev.congr (fun k => if_pos rfl) (Ev.bind rb (divides_bad a b))
    | true =>
      obtain ⟨h1, h2⟩ := Bool.and_eq_true_iff.1 hv
      rw [h1] at ra
      rw [h2] at rb
      obtain ⟨x, rfl, hx⟩ := valid_num h1
      obtain ⟨y, rfl, hy⟩ := valid_num h2
      by_cases h0 : y = 0
      · subst h0
        refine Ev.bind (divmod_zero hx) (Ev.bind (gcd_T hx hy) (Ev.bind ra (Ev.congr (fun k => if_pos rfl) (Ev.bind rb ?_))))
        exact divides_good x 0 hx hy _ _ _ (fun _ => ⟨rfl, rfl, rfl⟩) (fun h => absurd rfl h)
      · refine Ev.bind (divmod_T hx hy h0) (Ev.bind (gcd_T hx hy) (Ev.bind ra (Ev.congr (fun k => if_pos rfl) (Ev.bind rb ?_))))
        exact divides_good x y hx hy _ _ _ (fun h => absurd h h0) (fun _ => ⟨rfl, rfl, rfl⟩)
end Go.Proofs.YtdnjlmoggnbknaaDoor.PInt
