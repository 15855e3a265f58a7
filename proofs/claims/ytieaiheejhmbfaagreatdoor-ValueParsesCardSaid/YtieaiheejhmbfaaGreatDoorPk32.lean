/- The plain law: what Text writes, Parse reads back. No conditions. -/
import Derived.Test.YtieaiheejhmbfaaGreatDoorPk30
import Derived.Test.YtieaiheejhmbfaaGreatDoorPk18
namespace Go.Proofs.YtieaiheejhmbfaaGreatDoor.ML
open Go.RowKit
set_option linter.unusedVariables false
set_option linter.unusedSimpArgs false
/-! ### Bytes at a place -/
def At (s : ByteArray) (a : Nat) (w : ByteArray) : Prop := a + w.size ≤ s.size ∧ ∀ i : Nat, i < w.size → byt s ((a + i : Nat) : Int) = byt w i
theorem byt_nat (s : ByteArray) (i : Nat) : byt s (i : Int) = ((s.data.toList.getD i 0).toNat : Int) := by unfold byt; simp
theorem byt_app (u w : ByteArray) (i : Nat) : byt (u ++ w) (i : Int) = if i < u.size then byt u i else byt w ((i - u.size : Nat) : Int) := by
  rw [byt_nat, byt_nat, byt_nat, ByteArray.data_append, Array.toList_append]
  have hu : u.data.toList.length = u.size := Array.length_toList
  split
  · rename_i h; rw [List.getD_eq_getElem?_getD, List.getD_eq_getElem?_getD, List.getElem?_append_left (by omega)]
  · rename_i h; rw [List.getD_eq_getElem?_getD, List.getD_eq_getElem?_getD, List.getElem?_append_right (by omega), hu]
theorem At.left {s u w : ByteArray} {a : Nat} (h : At s a (u ++ w)) : At s a u := by
  obtain ⟨h1, h2⟩ := h
  rw [ByteArray.size_append] at h1
  refine ⟨by omega, fun i hi => ?_⟩
  rw [h2 i (by rw [ByteArray.size_append]; omega), byt_app, if_pos hi]
theorem At.right {s u w : ByteArray} {a : Nat} (h : At s a (u ++ w)) : At s (a + u.size) w := by
  obtain ⟨h1, h2⟩ := h
  rw [ByteArray.size_append] at h1
  refine ⟨by omega, fun i hi => ?_⟩
  have := h2 (u.size + i) (by rw [ByteArray.size_append]; omega)
  rw [byt_app, if_neg (by omega), show u.size + i - u.size = i by omega] at this
  rwa [show a + u.size + i = a + (u.size + i) by omega]
theorem At.self (s : ByteArray) : At s 0 s := ⟨by omega, fun i _ => by simp⟩
theorem At.ext {s w : ByteArray} {a : Nat} (h : At s a w) : s.extract a (a + w.size) = w := by
  obtain ⟨h1, h2⟩ := h
  have hws : w.size = w.data.size := rfl
  have hss : s.size = s.data.size := rfl
  apply ByteArray.ext
  rw [ByteArray.data_extract]
  apply Array.ext
  · rw [Array.size_extract]; omega
  · intro i hi hi2
    have h3 := h2 i (by omega)
    rw [byt_nat, byt_nat] at h3
    rw [Array.getElem_extract]
    have e1 : s.data.toList.getD (a + i) 0 = s.data[a + i]'(by omega) := by
      rw [List.getD_eq_getElem?_getD, List.getElem?_eq_getElem (by rw [Array.length_toList]; omega), Option.getD_some, Array.getElem_toList]
    have e2 : w.data.toList.getD i 0 = w.data[i] := by
      rw [List.getD_eq_getElem?_getD, List.getElem?_eq_getElem (by rw [Array.length_toList]; omega), Option.getD_some, Array.getElem_toList]
    rw [e1, e2] at h3
    exact UInt8.toNat_inj.1 (by exact_mod_cast h3)
theorem byt_pos {s : ByteArray} {a : Nat} (h : byt s (a : Int) ≠ 0) : a < s.size := by
  rcases Nat.lt_or_ge a s.size with h1 | h1
  · exact h1
  · refine absurd ?_ h
    rw [byt_nat, List.getD_eq_getElem?_getD, List.getElem?_eq_none (by rw [Array.length_toList]; exact h1)]; rfl
theorem skO_run {p : Int → Bool} {s : ByteArray} : ∀ (n a : Nat), a + n ≤ s.size → (∀ i, i < n → p (byt s ((a + i : Nat) : Int)) = true) → ¬ (a + n < s.size ∧ p (byt s ((a + n : Nat) : Int)) = true) → skO p s a = a + n
  | 0, a, h, _, he => by
    rw [Nat.add_zero] at he ⊢
    rw [skO_eq, if_neg he]
  | n + 1, a, h, hp, he => by
    rw [skO_eq, if_pos ⟨by omega, hp 0 (by omega)⟩, skO_run n (a + 1) (by omega) (fun i hi => by have := hp (i + 1) (by omega); rwa [show a + 1 + i = a + (i + 1) by omega]) (by rwa [show a + 1 + n = a + (n + 1) by omega])]
    omega
theorem sk_not {s : ByteArray} {a : Nat} (h : byt s (a : Int) ≠ 32) : skO spP s a = a := by
  rw [skO_eq, if_neg (fun hh => h (by simpa [spP] using hh.2))]
theorem sk_one {s : ByteArray} {a : Nat} (h : byt s (a : Int) = 32) (h2 : byt s ((a + 1 : Nat) : Int) ≠ 32) : skO spP s a = a + 1 := by
  rw [skO_eq, if_pos ⟨byt_pos (by omega), by simp [spP, h]⟩, sk_not h2]
theorem nxB_at {s : ByteArray} {a : Nat} (h : byt s (a : Int) ≠ 0) : nxB s a = byt s a := by unfold nxB; rw [if_pos (byt_pos h)]
/-! ### Words -/
/-- The place where a word ends. -/
def Ew (s : ByteArray) (e : Nat) : Prop := e = s.size ∨ byt s (e : Int) = 41 ∨ byt s (e : Int) = 32
def LtW (w : ByteArray) : Prop := 0 < w.size ∧ ∀ i : Nat, i < w.size → ltP (byt w i) = true ∨ (i = 0 ∧ byt w 0 = 45)
theorem Ew.no {s : ByteArray} {e : Nat} (h : Ew s e) : ¬ (e < s.size ∧ ltP (byt s (e : Int)) = true) ∧ ¬ (e < s.size ∧ byt s (e : Int) = 45) := by
  rcases h with h | h | h
  · exact ⟨fun hh => by omega, fun hh => by omega⟩
  · exact ⟨fun hh => by rw [h] at hh; exact absurd hh.2 (by decide), fun hh => by omega⟩
  · exact ⟨fun hh => by rw [h] at hh; exact absurd hh.2 (by decide), fun hh => by omega⟩
theorem word_at {s w : ByteArray} {a : Nat} (h : At s a w) (hw : LtW w) (he : Ew s (a + w.size)) : wE s a = a + w.size ∧ wordF s a = wdF w := by
  obtain ⟨h1, h2⟩ := h
  have e0 := h2 0 hw.1
  rw [Nat.add_zero] at e0
  have hE : wE s a = a + w.size := by
    unfold wE
    by_cases h45 : a < s.size ∧ byt s (a : Int) = 45
    · have hr := skO_run (p := ltP) (s := s) (w.size - 1) (a + 1) (by have := hw.1; omega) (fun i hi => by
        have h3 := h2 (i + 1) (by omega)
        rw [show a + 1 + i = a + (i + 1) by omega, h3]
        rcases hw.2 (i + 1) (by omega) with h | h
        · exact h
        · omega) (by rw [show a + 1 + (w.size - 1) = a + w.size by have := hw.1; omega]; exact he.no.1)
      rw [if_pos h45, hr]
      have := hw.1
      omega
    · have hr := skO_run (p := ltP) (s := s) w.size a h1 (fun i hi => by
        rw [h2 i hi]
        rcases hw.2 i hi with h | h
        · exact h
        · exact absurd ⟨by omega, e0.trans (by simpa using h.2)⟩ h45) he.no.1
      rw [if_neg h45, hr]
  exact ⟨hE, by rw [word_n (s := s) (w := w) (a := a) (by rw [hE]; exact he.no.2) (by rw [hE]; exact At.ext ⟨h1, h2⟩)]⟩
theorem name_lt {w : ByteArray} (h : nameF w = true) : LtW w ∧ wdF w = some ⟨w, 0, []⟩ ∧ 65 ≤ byt w 0 ∧ byt w 0 ≤ 90 ∧ w ≠ ⟨#[]⟩ := by
  unfold nameF at h
  rw [decide_eq_true_eq] at h
  obtain ⟨h0, _, h1, h2, h3⟩ := h
  have hne : w ≠ ⟨#[]⟩ := fun e => by subst e; exact absurd h0 (by decide)
  refine ⟨⟨h0, fun i hi => .inl ?_⟩, ?_, h1, h2, hne⟩
  · have := h3 ⟨i, hi⟩
    unfold letB at this
    unfold ltP
    exact decide_eq_true this
  · unfold wdF
    rw [if_neg hne, if_pos ⟨h1, h2⟩]
/-! ### Numerals -/
theorem dec_bytes : ∀ u : Nat, ∀ b ∈ Lib.decDigits u, 48 ≤ b.toNat ∧ b.toNat ≤ 57 := by
  intro u
  induction u using Nat.strongRecOn with
  | ind u ih =>
    intro b hb
    have key : ∀ v, v < 10 → b = UInt8.ofNat (48 + v) → 48 ≤ b.toNat ∧ b.toNat ≤ 57 := fun v hv e => by
      subst e; rw [UInt8.toNat_ofNat']; omega
    rw [Lib.decDigits] at hb
    split at hb
    · rename_i h; exact key u h (by simpa using hb)
    · rename_i h
      rcases List.mem_append.1 hb with hb | hb
      · exact ih (u / 10) (by omega) b hb
      · exact key (u % 10) (by omega) (by simpa using hb)
theorem dec_ne (u : Nat) : Lib.decDigits u ≠ [] := by
  rw [Lib.decDigits]; split <;> simp
theorem pu_dec (M : Nat) (hM : M ≤ 18446744073709551615) : ∀ (u : Nat) (r : List UInt8), u ≤ M → Lib.parseUintM M 0 (Lib.decDigits u ++ r) = Lib.parseUintM M u r := by
  intro u
  induction u using Nat.strongRecOn with
  | ind u ih =>
    intro r hu
    have key : ∀ v acc, v < 10 → acc * 10 + v = u → Lib.parseUintM M acc (UInt8.ofNat (48 + v) :: r) = Lib.parseUintM M u r := fun v acc hv e => by
      have hb : (UInt8.ofNat (48 + v)).toNat = 48 + v := by rw [UInt8.toNat_ofNat']; omega
      rw [Lib.parseUintM, hb, if_pos (by omega), if_neg (by omega), show acc * 10 + (48 + v - 48) = u by omega, if_neg (by omega)]
    rw [Lib.decDigits]
    split
    · rename_i h; exact key u 0 h (by omega)
    · rename_i h
      rw [List.append_assoc, ih (u / 10) (by omega) _ (by omega)]
      exact key (u % 10) (u / 10) (by omega) (by omega)
theorem pint_itoa {n : Int} (h0 : -9223372036854775808 ≤ n) (h1 : n ≤ 9223372036854775807) : Lib.parseIntB 64 (Lib.itoa n) = .ok n := by
  have pu : ∀ u : Nat, u ≤ 18446744073709551615 → Lib.parseUintB 64 (Lib.decDigits u) = .ok u := fun u hu => by
    unfold Lib.parseUintB
    rw [if_neg (dec_ne u)]
    have := pu_dec (2 ^ 64 - 1) (by decide) u [] (by omega)
    rw [List.append_nil] at this
    rw [this, Lib.parseUintM]
  by_cases hn : n < 0
  · rw [itoa_m hn]
    unfold Lib.parseIntB
    dsimp only
    rw [if_pos (.inr (by decide)), pu _ (by omega)]
    dsimp only
    rw [if_neg (fun hh => hh.1 (by decide)), if_neg (fun hh => by have := hh.2; omega), if_pos (by decide)]
    congr 1
    omega
  · rw [itoa_pos (by omega)]
    obtain ⟨c, r, e⟩ : ∃ c r, Lib.decDigits n.toNat = c :: r := by
      cases h : Lib.decDigits n.toNat with
      | nil => exact absurd h (dec_ne _)
      | cons c r => exact ⟨c, r, rfl⟩
    have hc := dec_bytes n.toNat c (by rw [e]; exact List.mem_cons_self ..)
    have hp := pu n.toNat (by omega)
    rw [e] at hp ⊢
    unfold Lib.parseIntB
    dsimp only
    rw [if_neg (by omega), hp]
    dsimp only
    rw [if_neg (fun hh => by have := hh.2; omega), if_neg (fun hh => by have := hh.1; omega), if_neg (by omega)]
    congr 1
    omega
theorem itoa_byt {n : Int} : 0 < (itoaS n).size ∧ ∀ i : Nat, i < (itoaS n).size → (48 ≤ byt (itoaS n) i ∧ byt (itoaS n) i ≤ 57) ∨ (i = 0 ∧ byt (itoaS n) 0 = 45 ∧ n < 0) := by
  have hb : ∀ (l : List UInt8) (i : Nat) (h : i < l.length), byt (⟨l.toArray⟩ : ByteArray) (i : Int) = ((l[i].toNat : Nat) : Int) := fun l i h => by
    rw [byt_nat]; simp [List.getD, h]
  have hs : ∀ l : List UInt8, (⟨l.toArray⟩ : ByteArray).size = l.length := fun l => by simp [ByteArray.size]
  unfold itoaS
  by_cases hn : n < 0
  · rw [itoa_m hn, hs]
    refine ⟨by simp, fun i hi => ?_⟩
    cases i with
    | zero => exact .inr ⟨rfl, by have := hb (45 :: Lib.decDigits (-n).toNat) 0 (by simp); simpa using this, hn⟩
    | succ i =>
      left
      rw [hb _ (i + 1) hi]
      have := dec_bytes (-n).toNat ((Lib.decDigits (-n).toNat)[i]'(by simpa using hi)) (List.getElem_mem _)
      simp only [List.getElem_cons_succ]
      omega
  · rw [itoa_pos (by omega), hs]
    refine ⟨List.length_pos_iff.2 (dec_ne _), fun i hi => .inl ?_⟩
    rw [hb _ i hi]
    have := dec_bytes n.toNat ((Lib.decDigits n.toNat)[i]) (List.getElem_mem _)
    omega
theorem num_lt {n : Int} (h0 : -9223372036854775808 ≤ n) (h1 : n ≤ 9223372036854775807) : LtW (itoaS n) ∧ wdF (itoaS n) = some ⟨⟨#[]⟩, n, []⟩ ∧ (0 ≤ n → 48 ≤ byt (itoaS n) 0 ∧ byt (itoaS n) 0 ≤ 57) ∧ byt (itoaS n) 0 ≠ 32 := by
  obtain ⟨h2, h3⟩ := itoa_byt (n := n)
  have e0 := h3 0 h2
  refine ⟨⟨h2, fun i hi => ?_⟩, ?_, fun hn => ?_, ?_⟩
  · rcases h3 i hi with h | h
    · left; unfold ltP; exact decide_eq_true (by omega)
    · exact .inr ⟨h.1, h.2.1⟩
  · unfold wdF
    rw [if_neg (fun e => by rw [e] at h2; exact absurd h2 (by decide)), if_neg (by simp only [Int.natCast_zero] at e0; omega), if_pos (show NumW (itoaS n) from fun i hi hh => by
      rcases h3 i hi with h | h
      · omega
      · obtain ⟨rfl, h4, _⟩ := h; simp only [Int.natCast_zero] at hh; omega)]
    rw [show (itoaS n).data.toList = Lib.itoa n from by simp [itoaS], pint_itoa h0 h1]
  · simp only [Int.natCast_zero] at e0; omega
  · simp only [Int.natCast_zero] at e0; omega
end Go.Proofs.YtieaiheejhmbfaaGreatDoor.ML
/- The plain law: what Text writes, Parse reads back; terms. No conditions. -/
namespace Go.Proofs.YtieaiheejhmbfaaGreatDoor.ML
open Go.RowKit
set_option linter.unusedVariables false
set_option linter.unusedSimpArgs false
mutual
def tv (d : List DT) : Int → VT → TT
  | t, .mk n c l => if t = 0 then ⟨⟨#[]⟩, n, []⟩ else ⟨((consF d t).getD c.toNat ⟨⟨#[]⟩, []⟩).name, 0, tvL d (fldV d t (.mk n c l)) l⟩
def tvL (d : List DT) : List Int → List VT → List TT
  | _, [] => []
  | ts, v :: vs => tv d (ts.headD 0) v :: tvL d ts.tail vs
end
theorem tv_0 (d : List DT) (v : VT) : tv d 0 v = ⟨⟨#[]⟩, v.num, []⟩ := by cases v; rw [tv]; rfl
theorem tv_c (d : List DT) (p : Nat) (hp : p < d.length) (v : VT) (k : Nat) (hk : v.con = k) (hk' : k < d[p].cons.length) : tv d ((p : Int) + 1) v = ⟨d[p].cons[k].name, 0, tvL d d[p].cons[k].fields v.args⟩ := by
  have h1 := fldV_at d p hp v k hk hk'
  cases v with
  | mk n c l =>
    rw [tv, if_neg (by omega), h1, consF_at d p hp]
    simp only [VT.con, VT.args] at hk ⊢
    rw [hk]
    simp [List.getD, hk']
theorem tvL_at (d : List DT) (ts : List Int) (vs : List VT) (i : Nat) (h : i < vs.length) (h' : i < ts.length) : tvL d (ts.drop i) (vs.drop i) = tv d ts[i] vs[i] :: tvL d (ts.drop (i + 1)) (vs.drop (i + 1)) := by
  rw [List.drop_eq_getElem_cons h, List.drop_eq_getElem_cons h', tvL]; rfl
theorem tvL_len (d : List DT) : ∀ (vs : List VT) (ts : List Int), (tvL d ts vs).length = vs.length
  | [], ts => by rw [tvL]; rfl
  | v :: vs, ts => by rw [tvL, List.length_cons, List.length_cons, tvL_len d vs]
theorem tvL_get (d : List DT) (ts : List Int) (vs : List VT) (i : Nat) (h : i < vs.length) (h' : i < ts.length) (h2 : i < (tvL d ts vs).length) : (tvL d ts vs)[i] = tv d ts[i] vs[i] := by
  induction i generalizing ts vs with
  | zero =>
    cases vs with
    | nil => simp at h
    | cons v vs => cases ts with
      | nil => simp at h'
      | cons t ts => simp [tvL]
  | succ i ih =>
    cases vs with
    | nil => simp at h
    | cons v vs => cases ts with
      | nil => simp at h'
      | cons t ts =>
        simp only [tvL, List.headD_cons, List.tail_cons, List.getElem_cons_succ]
        exact ih ts vs (by simpa using h) (by simpa using h') _
def NmOk (d : List DT) : Prop := ∀ p (hp : p < d.length) k (hk : k < d[p].cons.length), nameF d[p].cons[k].name = true
theorem tx_first {d : List DT} (hN : NmOk d) {t : Int} {v : VT} (hty : TyV d t v) (hrg : RgV v) : 0 < (txV d t v).size ∧ byt (txV d t v) 0 ≠ 0 ∧ byt (txV d t v) 0 ≠ 32 ∧ byt (txV d t v) 0 ≠ 40 ∧ byt (txV d t v) 0 ≠ 41 := by
  by_cases h0 : t = 0
  · subst h0
    rw [txV_0]
    obtain ⟨h1, h2⟩ := itoa_byt (n := v.num)
    have h3 := h2 0 h1
    simp only [Int.natCast_zero] at h3
    exact ⟨h1, by omega, by omega, by omega, by omega⟩
  · obtain ⟨p, k, hp, hk', rfl, hnum, hk, hal, hch⟩ := hty.conE h0
    have h1 := name_lt (hN p hp k hk')
    have h2 := byt_app d[p].cons[k].name (txL d d[p].cons[k].fields v.args) 0
    rw [if_pos h1.1.1] at h2
    rw [txV_c d p hp v k hk hk', ByteArray.size_append]
    simp only [Int.natCast_zero] at h2
    rw [h2]
    have h3 := h1.1.1
    exact ⟨by omega, by omega, by omega, by omega, by omega⟩
def En (s : ByteArray) (e : Nat) : Prop := e = s.size ∨ byt s (e : Int) = 41
theorem byt_end {s : ByteArray} {e : Nat} (h : e = s.size) : byt s (e : Int) = 0 := by
  rw [byt_nat, List.getD_eq_getElem?_getD, List.getElem?_eq_none (by rw [Array.length_toList]; exact Nat.le_of_eq h.symm)]; rfl
theorem En.ne {s : ByteArray} {e : Nat} (h : En s e) : byt s (e : Int) ≠ 32 := by
  rcases h with h | h
  · rw [byt_end h]; decide
  · omega
theorem En.done {s : ByteArray} {e : Nat} (h : En s e) : skO spP s e = e ∧ (nxB s e = 0 ∨ nxB s e = 41) := by
  refine ⟨sk_not h.ne, ?_⟩
  rcases h with h | h
  · left; unfold nxB; rw [if_neg (by omega)]
  · right; rw [nxB_at (by omega)]; exact h
theorem En.ew {s : ByteArray} {e : Nat} (h : En s e) : Ew s e := by rcases h with h | h; exact .inl h; exact .inr (.inl h)
theorem At.first {s w : ByteArray} {a : Nat} (h : At s a w) (h0 : 0 < w.size) : byt s (a : Int) = byt w 0 := by
  have := h.2 0 h0
  simpa using this
theorem back {d : List DT} (hN : NmOk d) (s : ByteArray) : ∀ (z : Nat) (v : VT), SizeOf.sizeOf v < z → ∀ (t : Int), TyV d t v → RgV v → ∀ (a : Nat), At s a (txV d t v) →
    (En s (a + (txV d t v).size) → ∀ n, s.size - a < n → termF s n a = (some (tv d t v), a + (txV d t v).size)) ∧
    (v.args.length = 0 ∧ 0 ≤ v.num → Ew s (a + (txV d t v).size) → wordF s a = some (tv d t v) ∧ wE s a = a + (txV d t v).size)
  | 0, _, hz => by omega
  | z + 1, v, hz => by
    intro t hty hrg a hat
    have hfst := tx_first hN hty hrg
    have hb0 := hat.first hfst.1
    by_cases h0 : t = 0
    · subst h0
      have hn := num_lt hrg.num.1 hrg.num.2
      rw [txV_0] at hat hfst hb0 ⊢
      rw [tv_0]
      refine ⟨fun he n hf => ?_, fun _ he => ?_⟩
      · obtain ⟨hw1, hw2⟩ := word_at hat hn.1 he.ew
        obtain ⟨n, rfl⟩ : ∃ m, n = m + 2 := ⟨n - 2, by have := hat.1; omega⟩
        have hsk : skO spP s a = a := sk_not (by rw [hb0]; exact hn.2.2.2)
        rw [tm_1 (t := ⟨⟨#[]⟩, v.num, []⟩) (by rw [hsk, hw2, hn.2.1]), hsk, hw1]
        rw [lp_done (by rw [he.done.1]; exact he.done.2), he.done.1]
        rfl
      · obtain ⟨hw1, hw2⟩ := word_at hat hn.1 he
        exact ⟨by rw [hw2, hn.2.1], hw1⟩
    · obtain ⟨p, k, hp, hk', rfl, hnum, hk, hal, hch⟩ := hty.conE h0
      have htx := txV_c d p hp v k hk hk'
      have hnm := name_lt (hN p hp k hk')
      rw [tv_c d p hp v k hk hk']
      have hatn : At s a d[p].cons[k].name := by rw [htx] at hat; exact hat.left
      have hatl : At s (a + d[p].cons[k].name.size) (txL d d[p].cons[k].fields v.args) := by rw [htx] at hat; exact hat.right
      have hsz : (txV d ((p : Int) + 1) v).size = d[p].cons[k].name.size + (txL d d[p].cons[k].fields v.args).size := by rw [htx, ByteArray.size_append]
      have rest_ew : ∀ i b, At s b (txL d (d[p].cons[k].fields.drop i) (v.args.drop i)) → Ew s (b + (txL d (d[p].cons[k].fields.drop i) (v.args.drop i)).size) → Ew s b := fun i b hb he => by
        rcases Nat.lt_or_ge i v.args.length with h | h
        · have e1 := txL_at d d[p].cons[k].fields v.args i h (by omega)
          rw [e1] at hb
          have := hb.left.left.first (by decide)
          exact .inr (.inr (this.trans (by decide)))
        · have e1 : txL d (d[p].cons[k].fields.drop i) (v.args.drop i) = ⟨#[]⟩ := by rw [List.drop_eq_nil_of_le h]; unfold txL; rfl
          rw [e1] at he
          exact he
      have loop : ∀ (m i : Nat), v.args.length - i = m → i ≤ v.args.length → ∀ (b : Nat) (acc : List TT), At s b (txL d (d[p].cons[k].fields.drop i) (v.args.drop i)) → En s (b + (txL d (d[p].cons[k].fields.drop i) (v.args.drop i)).size) → ∀ n, s.size - b < n →
          loopF s n d[p].cons[k].name 0 acc b = (some ⟨d[p].cons[k].name, 0, acc ++ tvL d (d[p].cons[k].fields.drop i) (v.args.drop i)⟩, b + (txL d (d[p].cons[k].fields.drop i) (v.args.drop i)).size) := by
        intro m
        induction m with
        | zero =>
          intro i hm hi b acc hb he n hf
          have e1 : txL d (d[p].cons[k].fields.drop i) (v.args.drop i) = ⟨#[]⟩ := by rw [List.drop_eq_nil_of_le (by omega : v.args.length ≤ i)]; unfold txL; rfl
          have e2 : tvL d (d[p].cons[k].fields.drop i) (v.args.drop i) = [] := by rw [List.drop_eq_nil_of_le (by omega : v.args.length ≤ i)]; unfold tvL; rfl
          rw [e1] at he ⊢
          rw [e2, List.append_nil]
          have he' : En s b := he
          obtain ⟨n, rfl⟩ : ∃ m, n = m + 1 := ⟨n - 1, by omega⟩
          rw [lp_done (by rw [he'.done.1]; exact he'.done.2), he'.done.1]
          rfl
        | succ m ih =>
          intro i hm hi b acc hb he n hf
          have z6 : i < v.args.length := by omega
          have z7 : i < d[p].cons[k].fields.length := by omega
          have e1 := txL_at d d[p].cons[k].fields v.args i z6 z7
          have e2 := tvL_at d d[p].cons[k].fields v.args i z6 z7
          have hf1 := tx_first hN (hch i z6 z7) (hrg.mem (List.getElem_mem z6))
          obtain ⟨n, rfl⟩ : ∃ m, n = m + 1 := ⟨n - 1, by omega⟩
          rw [e1] at hb
          have y1 : bSp.size = 1 := rfl
          have y2 : bLp.size = 1 := rfl
          have y3 : bRp.size = 1 := rfl
          have h1 := hb.left.left
          have h2 := hb.left.right
          have h3 := hb.right
          have hs1 := hb.1
          simp only [ByteArray.size_append] at hs1
          rw [y1] at h2
          have b32 : byt s (b : Int) = 32 := (h1.first (by decide)).trans (by decide)
          have ihv := fun a' => back hN s z v.args[i] (by have := List.sizeOf_lt_of_mem (List.getElem_mem z6); cases v; simp [VT.args] at *; omega) _ (hch i z6 z7) (hrg.mem (List.getElem_mem z6)) a'
          have hesz : b + (txL d (d[p].cons[k].fields.drop i) (v.args.drop i)).size = (b + (bSp ++ if v.args[i].args.length = 0 ∧ 0 ≤ v.args[i].num then txV d d[p].cons[k].fields[i] v.args[i] else bLp ++ txV d d[p].cons[k].fields[i] v.args[i] ++ bRp).size) + (txL d (d[p].cons[k].fields.drop (i + 1)) (v.args.drop (i + 1))).size := by
            rw [e1]; simp only [ByteArray.size_append]; omega
          rw [hesz] at he ⊢
          by_cases hpc : v.args[i].args.length = 0 ∧ 0 ≤ v.args[i].num
          · rw [if_pos hpc] at h2 h3 hs1 he ⊢
            have hbb := h2.first hf1.1
            have hbn : b + (bSp ++ txV d d[p].cons[k].fields[i] v.args[i]).size = b + 1 + (txV d d[p].cons[k].fields[i] v.args[i]).size := by rw [ByteArray.size_append, y1]; omega
            rw [hbn] at h3 he ⊢
            have hsk : skO spP s b = b + 1 := sk_one b32 (by rw [hbb]; exact hf1.2.2.1)
            have hew := rest_ew (i + 1) _ h3 he.ew
            obtain ⟨w1, w2⟩ := (ihv (b + 1) h2).2 hpc hew
            have hnx : nxB s (b + 1) = byt s ((b + 1 : Nat) : Int) := nxB_at (by rw [hbb]; exact hf1.2.1)
            rw [lp_w1 (t := tv d d[p].cons[k].fields[i] v.args[i]) (by rw [hsk, hnx, hbb]; exact fun hh => hh.elim hf1.2.1 hf1.2.2.2.2) hnm.2.2.2.2 (by rw [hsk, hnx, hbb]; exact hf1.2.2.2.1) (by rw [hsk]; exact w1), hsk, w2]
            rw [ih (i + 1) (by omega) (by omega) _ _ h3 he n (by omega), e2, List.append_assoc]
            rfl
          · rw [if_neg hpc] at h2 h3 hs1 he ⊢
            simp only [ByteArray.size_append] at hs1
            have b40 : byt s ((b + 1 : Nat) : Int) = 40 := (h2.left.left.first (by decide)).trans (by decide)
            have h4 := h2.left.right
            rw [y2] at h4
            have h5 := h2.right
            rw [ByteArray.size_append, y2] at h5
            have b41 : byt s ((b + 1 + 1 + (txV d d[p].cons[k].fields[i] v.args[i]).size : Nat) : Int) = 41 := by
              have := h5.first (by decide)
              rw [show b + 1 + (1 + (txV d d[p].cons[k].fields[i] v.args[i]).size) = b + 1 + 1 + (txV d d[p].cons[k].fields[i] v.args[i]).size by omega] at this
              exact this.trans (by decide)
            have hbn : b + (bSp ++ (bLp ++ txV d d[p].cons[k].fields[i] v.args[i] ++ bRp)).size = b + 1 + 1 + (txV d d[p].cons[k].fields[i] v.args[i]).size + 1 := by simp only [ByteArray.size_append, y1, y2, y3]; omega
            rw [hbn] at h3 he ⊢
            have hsk : skO spP s b = b + 1 := sk_one b32 (by rw [b40]; decide)
            have hnx : nxB s (b + 1) = 40 := by rw [nxB_at (by rw [b40]; decide), b40]
            have ht := (ihv (b + 1 + 1) h4).1 (.inr b41) n (by omega)
            have hsk2 : skO spP s (b + 1 + 1 + (txV d d[p].cons[k].fields[i] v.args[i]).size) = b + 1 + 1 + (txV d d[p].cons[k].fields[i] v.args[i]).size := sk_not (by rw [b41]; decide)
            rw [lp_t2 (t := tv d d[p].cons[k].fields[i] v.args[i]) (by rw [hsk, hnx]; decide) hnm.2.2.2.2 (by rw [hsk, hnx]) (by rw [hsk, ht]) (by rw [hsk, ht]; dsimp only; rw [hsk2, nxB_at (by rw [b41]; decide), b41]), hsk, ht]
            dsimp only
            rw [hsk2, ih (i + 1) (by omega) (by omega) _ _ h3 he n (by omega), e2, List.append_assoc]
            rfl
      refine ⟨fun he n hf => ?_, fun hpc he => ?_⟩
      · rw [hsz] at he ⊢
        rw [← Nat.add_assoc] at he ⊢
        have hew := rest_ew 0 (a + d[p].cons[k].name.size) hatl he.ew
        obtain ⟨hw1, hw2⟩ := word_at hatn hnm.1 hew
        obtain ⟨n, rfl⟩ : ∃ m, n = m + 1 := ⟨n - 1, by omega⟩
        have hsk : skO spP s a = a := sk_not (by rw [hb0]; exact hfst.2.2.1)
        rw [tm_1 (t := ⟨d[p].cons[k].name, 0, []⟩) (by rw [hsk, hw2, hnm.2.1]), hsk, hw1]
        have hns := hnm.1.1
        have := loop v.args.length 0 rfl (by omega) (a + d[p].cons[k].name.size) [] hatl he n (by have := hatn.1; omega)
        exact this
      · have hl0 : v.args = [] := List.eq_nil_of_length_eq_zero hpc.1
        have e1 : txL d d[p].cons[k].fields v.args = ⟨#[]⟩ := by rw [hl0]; unfold txL; rfl
        have e2 : tvL d d[p].cons[k].fields v.args = [] := by rw [hl0]; unfold tvL; rfl
        rw [hsz, e1] at he ⊢
        obtain ⟨hw1, hw2⟩ := word_at hatn hnm.1 he
        exact ⟨by rw [hw2, hnm.2.1, e2], hw1⟩
end Go.Proofs.YtieaiheejhmbfaaGreatDoor.ML
/- The plain law: what Text writes, Parse reads back; values. No conditions. -/
namespace Go.Proofs.YtieaiheejhmbfaaGreatDoor.ML
open Go.RowKit
set_option linter.unusedVariables false
set_option linter.unusedSimpArgs false
theorem idx_uniq {α β : Type} [DecidableEq β] (f : α → β) : ∀ (l : List α) (k : Nat) (h : k < l.length), (l.map f).Nodup → idxP (fun c => decide (f c = f l[k])) l = (k : Int)
  | x :: l, 0, _, _ => by simp [idxP]
  | x :: l, k + 1, h, hn => by
    rw [List.map_cons, List.nodup_cons] at hn
    have hk : k < l.length := by simpa using h
    have ih := idx_uniq f l k hk hn.2
    have hx : ¬ (f x = f l[k]) := fun e => hn.1 (by rw [e]; exact List.mem_map.2 ⟨_, List.getElem_mem hk, rfl⟩)
    simp only [List.getElem_cons_succ]
    rw [idxP, if_neg (by simpa using hx), ih, if_neg (by omega)]
    push_cast; rfl
theorem idx_none {α β : Type} [DecidableEq β] (f : α → β) (b : β) : ∀ (l : List α), b ∉ l.map f → idxP (fun c => decide (f c = b)) l = -1
  | [], _ => rfl
  | x :: l, h => by
    rw [List.map_cons, List.mem_cons] at h
    have ih := idx_none f b l (fun hm => h (.inr hm))
    rw [idxP, if_neg (by simpa using fun e => h (.inl e.symm)), ih, if_pos (by omega)]
theorem conF_uniq : ∀ (d : List DT) (p : Nat) (hp : p < d.length) (k : Nat) (hk : k < d[p].cons.length) (t0 : Int), (cnL d).Nodup → conF d[p].cons[k].name d t0 = (t0 + (p : Int), (k : Int), true)
  | x :: d, 0, hp, k, hk, t0, hn => by
    have h1 : (x.cons.map (·.name)).Nodup := by
      simp only [cnL, List.flatMap_cons, List.nodup_append] at hn
      exact hn.1
    have := idx_uniq (fun c : CT => c.name) x.cons k hk h1
    simp only [List.getElem_cons_zero] at hk ⊢
    rw [conF, this, if_pos (by omega)]
    simp
  | x :: d, p + 1, hp, k, hk, t0, hn => by
    simp only [cnL, List.flatMap_cons, List.nodup_append] at hn
    have hp' : p < d.length := by simpa using hp
    simp only [List.getElem_cons_succ] at hk ⊢
    have ih := conF_uniq d p hp' k hk (t0 + 1) hn.2.1
    have hno : d[p].cons[k].name ∉ x.cons.map (·.name) := fun hm => hn.2.2 _ hm _ (List.mem_flatMap.2 ⟨d[p], List.getElem_mem hp', List.mem_map.2 ⟨_, List.getElem_mem hk, rfl⟩⟩) rfl
    have := idx_none (fun c : CT => c.name) d[p].cons[k].name x.cons hno
    rw [conF, this, if_neg (by omega), ih]
    simp only [Prod.mk.injEq, and_true, true_and]
    push_cast; omega
theorem bdL_all {d : List DT} : ∀ (vs : List VT) (ts : List Int), vs.length ≤ ts.length → (∀ i (h : i < vs.length) (h' : i < ts.length), bdV d ts[i] (tv d ts[i] vs[i]) = some vs[i]) → bdL d ts (tvL d ts vs) = some vs
  | [], ts, _, _ => by rw [tvL]; unfold bdL; rfl
  | v :: vs, [], hl, _ => by simp at hl
  | v :: vs, t :: ts, hl, h => by
    have h0 := h 0 (by simp) (by simp)
    simp only [List.getElem_cons_zero] at h0
    have ih := bdL_all vs ts (by simpa using hl) (fun i h1 h2 => h (i + 1) (by simpa using h1) (by simpa using h2))
    rw [tvL]
    unfold bdL
    simp only [List.headD_cons, List.tail_cons]
    rw [h0, ih]
    rfl
theorem back_v {d : List DT} (hN : NmOk d) (hu : (cnL d).Nodup) : ∀ (z : Nat) (v : VT), SizeOf.sizeOf v < z → ∀ (t : Int), TyV d t v → bdV d t (tv d t v) = some v ∧ knV d (tv d t v) = true
  | 0, _, hz => by omega
  | z + 1, v, hz => by
    intro t hty
    by_cases h0 : t = 0
    · subst h0
      obtain ⟨hc, ha⟩ := hty.intE
      rw [tv_0, bd_0, knV_eq]
      refine ⟨?_, ?_⟩
      · rw [if_pos (show (TT.mk ⟨#[]⟩ v.num []).name = (⟨#[]⟩ : ByteArray) from rfl)]
        cases v with
        | mk n c l => simp only [VT.con, VT.args] at hc ha; subst hc ha; rfl
      · show (decide ((⟨#[]⟩ : ByteArray) = ⟨#[]⟩) || _) && knL d [] = true
        rw [decide_eq_true rfl, Bool.true_or, Bool.true_and]
        unfold knL; rfl
    · obtain ⟨p, k, hp, hk', rfl, hnum, hk, hal, hch⟩ := hty.conE h0
      have hcf := conF_uniq d p hp k hk' 1 hu
      have hnm := name_lt (hN p hp k hk')
      have ih : ∀ i (h1 : i < v.args.length) (h2 : i < d[p].cons[k].fields.length), bdV d d[p].cons[k].fields[i] (tv d d[p].cons[k].fields[i] v.args[i]) = some v.args[i] ∧ knV d (tv d d[p].cons[k].fields[i] v.args[i]) = true := fun i h1 h2 =>
        back_v hN hu z v.args[i] (by have := List.sizeOf_lt_of_mem (List.getElem_mem h1); cases v; simp [VT.args] at *; omega) _ (hch i h1 h2)
      have hfl : fldC d ((p : Int) + 1) (k : Int) = d[p].cons[k].fields := by
        unfold fldC; rw [consF_at d p hp]; simp [List.getD, hk']
      rw [tv_c d p hp v k hk hk', knV_eq]
      constructor
      · have hne : ¬ ((TT.mk d[p].cons[k].name 0 (tvL d d[p].cons[k].fields v.args)).name = ⟨#[]⟩ ∨ (conF (TT.mk d[p].cons[k].name 0 (tvL d d[p].cons[k].fields v.args)).name d 1).2.2 = false ∨ (conF (TT.mk d[p].cons[k].name 0 (tvL d d[p].cons[k].fields v.args)).name d 1).1 ≠ (p : Int) + 1 ∨ (fldC d ((p : Int) + 1) (conF (TT.mk d[p].cons[k].name 0 (tvL d d[p].cons[k].fields v.args)).name d 1).2.1).length ≠ (TT.mk d[p].cons[k].name 0 (tvL d d[p].cons[k].fields v.args)).args.length) := by
          simp only [TT.name, TT.args]
          rw [hcf]
          dsimp only
          rw [hfl, tvL_len]
          intro hh
          rcases hh with hh | hh | hh | hh
          · exact hnm.2.2.2.2 hh
          · cases hh
          · omega
          · exact hh hal.symm
        rw [bd_yes (d := d) (TT.mk d[p].cons[k].name 0 (tvL d d[p].cons[k].fields v.args)) h0 hne]
        simp only [TT.name, TT.args]
        rw [hcf]
        dsimp only
        rw [hfl, bdL_all v.args d[p].cons[k].fields (by omega) (fun i h1 h2 => (ih i h1 h2).1)]
        cases v with
        | mk n c l => simp only [VT.con, VT.args, VT.num] at hnum hk ⊢; subst hnum hk; rfl
      · simp only [TT.name, TT.args]
        rw [hcf]
        dsimp only
        rw [Bool.or_true, Bool.true_and, knL_iff]
        intro i hi
        have hi' : i < v.args.length := by rw [tvL_len] at hi; exact hi
        rw [tvL_get d _ _ i hi' (by omega) hi]
        exact (ih i hi' (by omega)).2
theorem names_ok {d : List DT} (h : checkF d = 0) : NmOk d ∧ (cnL d).Nodup := by
  obtain ⟨_, hf, ht, _⟩ := checkF_ok h
  constructor
  · obtain ⟨_, _, _, _, _, _, hall⟩ := hf
    intro p hp k hk
    obtain ⟨_, _, h3⟩ := hall p hp
    rw [List.any_eq_false] at h3
    have := h3 _ (List.getElem_mem hk)
    simpa using this
  · unfold TwiceP at ht
    exact (Classical.not_not.1 ht).2
/-- What Text writes, Parse reads back. -/
theorem parse_text {d : List DT} {t : Int} {v : VT} (h : (cellsF d t v).2 = 0) (hrg : RgV v) (hs : ¬ 65536 < (txV d t v).size) : parseF d t (txV d t v) = (v, 0) := by
  have hck := cells_ok h
  have hty := cells_ty h
  have h0 : tableF d t = 0 := by unfold tableF; rw [if_neg (fun hh => hh hck.2.2.2), if_neg (by omega)]
  obtain ⟨hN, hu⟩ := names_ok hck.2.2.2
  have hb := (back hN (txV d t v) (SizeOf.sizeOf v + 1) v (by omega) t hty hrg 0 (At.self _)).1 (.inl (by omega)) ((txV d t v).size + 1) (by omega)
  have hv := back_v hN hu (SizeOf.sizeOf v + 1) v (by omega) t hty
  rw [pa_x h0 hs (x := tv d t v) (by rw [hb]), hb]
  dsimp only
  rw [if_neg (by omega), hv.2, if_neg (by decide), hv.1]
theorem small_name {d : List DT} (h : SmallP d) (t : Int) (c : Nat) : ((consF d t).getD c ⟨⟨#[]⟩, []⟩).name.size ≤ 40 := by
  by_cases hc : c < (consF d t).length
  · have e : (consF d t).getD c ⟨⟨#[]⟩, []⟩ = (consF d t)[c] := by simp [List.getD, hc]
    rw [e]
    by_cases ht : t < 1 ∨ (d.length : Int) < t
    · exfalso; unfold consF at hc; rw [if_pos ht] at hc; simp at hc
    · obtain ⟨p, rfl⟩ : ∃ p : Nat, t = (p : Int) + 1 := ⟨(t - 1).toNat, by omega⟩
      have hp : p < d.length := by omega
      have e2 : consF d ((p : Int) + 1) = d[p].cons := consF_at d p hp
      have hk : c < d[p].cons.length := by rw [← e2]; exact hc
      have := ((h.2 p hp).2.2 c hk).1
      simp only [e2]
      exact this
  · have e : (consF d t).getD c ⟨⟨#[]⟩, []⟩ = ⟨⟨#[]⟩, []⟩ := by simp [List.getD, hc]
    rw [e]
    decide
mutual
theorem txV_size {d : List DT} (h : SmallP d) : ∀ (t : Int) (v : VT), RgV v → (txV d t v).size + 3 ≤ 43 * cnN v
  | t, .mk n c l, hr => by
    rw [txV, cnN]
    split
    · have := itoaS_size hr.num.1 hr.num.2
      simp only [VT.num] at this
      omega
    · have h1 := small_name h t c.toNat
      have h2 := txL_size h (fldV d t (.mk n c l)) l (fun x hx => hr.mem hx)
      rw [ByteArray.size_append]
      omega
theorem txL_size {d : List DT} (h : SmallP d) : ∀ (ts : List Int) (vs : List VT), (∀ x ∈ vs, RgV x) → (txL d ts vs).size ≤ 43 * cnNL vs
  | ts, [], _ => by rw [txL, cnNL]; decide
  | ts, v :: vs, hr => by
    have h1 := txV_size h (ts.headD 0) v (hr v (List.mem_cons_self ..))
    have h2 := txL_size h ts.tail vs (fun x hx => hr x (List.mem_cons_of_mem _ hx))
    have y1 : bSp.size = 1 := rfl
    have y2 : bLp.size = 1 := rfl
    have y3 : bRp.size = 1 := rfl
    rw [txL, cnNL]
    split <;> simp only [ByteArray.size_append, y1, y2, y3] <;> omega
end
theorem few_size {d : List DT} {v : VT} (h : fewF d v = true) (hr : RgV v) (t : Int) : (txV d t v).size ≤ 2580 := by
  unfold fewF at h
  rw [Bool.and_eq_true, decide_eq_true_eq] at h
  have h1 := txV_size (tt_eq.1 h.1) t v hr
  have h2 := szV_cn v 0 h.2
  omega
section
variable {P : Program} {tm : Tm} {M : Mem} {gd : Option (Nat × Bool)} {ty : TypeId} {pos : String} {aft : Array Edge} {x y : Operand} {T T' : TypeId} {dd : Option Tmp} {u w : ByteArray}
theorem V.nesF (h : u = w) [hx : Ev tm x (.string u)] [hy : Ev tm y (.string w)] : PVM P ⟨dd, .binOp .neq T x y T', ty, pos, aft, gd⟩ tm M (.bool false) := by have := PV.nes (P := P) (M := M) (d := dd) (ty := ty) (pos := pos) (aft := aft) (gd := gd) (T := T) (T' := T') hx.out hy.out; rwa [decide_eq_true h] at this
end
theorem text_ok {d : List DT} {t : Int} {v : VT} (h : (textF d t v).2 = 0) : (cellsF d t v).2 = 0 ∧ ¬ 65536 < (txV d t v).size ∧ (textF d t v).1 = txV d t v := by
  unfold textF at h ⊢
  by_cases h1 : (cellsF d t v).2 = 0
  · rw [if_neg (fun hh => hh h1)] at h ⊢
    by_cases h2 : 65536 < (txV d t v).size
    · rw [if_pos h2] at h; simp at h
    · rw [if_neg h2]; exact ⟨h1, h2, rfl⟩
  · rw [if_pos h1] at h; exact absurd h h1
end Go.Proofs.YtieaiheejhmbfaaGreatDoor.ML
