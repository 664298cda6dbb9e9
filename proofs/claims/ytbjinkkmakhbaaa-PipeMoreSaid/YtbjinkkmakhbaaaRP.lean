/- What the document's functions compute: powers, sets, which junctions are fed, what flows, pressures; in the words of the trees. -/
import Derived.Test.YtbjinkkmakhbaaaMB
import Derived.Test.YtbjinkkmakhbaaaPrint10
namespace Go.Proofs.Ytbjinkkmakhbaaa.Print
open Go.RowKit Go.Shelf Go.Proofs.YtbjinkkmakhbaaaW.PrintWords Go.Proofs.YtbjinkkmakhbaaaW.PrintLast Go.Proofs.YtbjinkkmakhbaaaW.PrintMore
set_option linter.unusedVariables false
set_option linter.unusedSimpArgs false
theorem w64 {n : Int} (h0 : -9223372036854775808 ≤ n) (h1 : n ≤ 9223372036854775807) : wrap64 n = n := by
  unfold wrap64
  omega
theorem pow16 {n : Nat} (hn : n ≤ 16) : 2 ^ n ≤ 65536 := Nat.le_trans (Nat.pow_le_pow_right (by decide) hn) (by decide)
theorem power_l0 {n : Nat} (hn : n ≤ 16) : ∀ (d i k : Nat), i + d = n → d < k → gasworksref06_power.l0 k (n : Int) ((2 ^ i : Nat) : Int) (i : Int) = some ((2 ^ n : Nat) : Int)
  | 0, i, k, h, hk => by
    obtain ⟨k, rfl⟩ : ∃ k', k = k' + 1 := ⟨k - 1, by omega⟩
    rw [gasworksref06_power.l0, if_neg (by omega)]
    obtain rfl : i = n := by omega
    rfl
  | d + 1, i, k, h, hk => by
    obtain ⟨k, rfl⟩ : ∃ k', k = k' + 1 := ⟨k - 1, by omega⟩
    have h1 := pow16 (n := i + 1) (by omega)
    have e : 2 ^ (i + 1) = 2 * 2 ^ i := by rw [Nat.pow_succ]; omega
    rw [gasworksref06_power.l0, if_pos (by omega), w64 (by omega) (by omega), w64 (by omega) (by omega)]
    have := power_l0 hn d (i + 1) k (by omega) (by omega)
    rw [e] at this
    rw [← this]
    congr 1
theorem power_ok {n k : Nat} (hn : n ≤ 16) (hk : n < k) : gasworksref06_power.f k (n : Int) = some ((2 ^ n : Nat) : Int) := power_l0 hn n 0 k (by omega) hk
theorem has_ok {s p k : Nat} (hs : s < 65536) (hp : p ≤ 16) (hk : p < k) : gasworksref06_Has.f k (s : Int) (p : Int) = some (s.testBit p) := by
  have hpos : 0 < 2 ^ p := Nat.pow_pos (by decide)
  unfold gasworksref06_Has.f
  rw [power_ok hp hk, Option.bind_some, if_neg (by omega)]
  have h1 : Int.tdiv (s : Int) ((2 ^ p : Nat) : Int) = ((s / 2 ^ p : Nat) : Int) := by
    rw [Int.tdiv_eq_ediv_of_nonneg (by omega), Int.natCast_ediv]
  have h2 : s / 2 ^ p ≤ s := Nat.div_le_self _ _
  rw [Nat.testBit_eq_decide_div_mod_eq, h1]
  generalize s / 2 ^ p = q at h2
  rw [w64 (by omega) (by omega), Int.tmod_eq_emod_of_nonneg (by omega)]
  congr 1
  rw [Bool.eq_iff_iff, beq_iff_eq, decide_eq_true_eq]
  omega
/-- A valid tree: what the plain lemmas ask. -/
theorem is_ok {lo hi : Int} {js : List S50} {ms : List S54} (hok : NetOk lo hi js ms) {s : Nat} (hs : s < 65536) : ∀ (j k : Nat), j ≤ ms.length → j + 20 ≤ k → gasworksref06_Is.f k lo hi js ms (s : Int) (j : Int) = some (PipeMath.fed (netM js ms) s.testBit j)
  | 0, k, _, hk => by
    obtain ⟨k, rfl⟩ : ∃ k', k = k' + 1 := ⟨k - 1, by omega⟩
    rw [gasworksref06_Is.f, if_pos (by rfl), PipeMath.fed]
  | j + 1, k, hj, hk => by
    obtain ⟨k, rfl⟩ : ∃ k', k = k' + 1 := ⟨k - 1, by omega⟩
    have hl : ms.length ≤ 8 := by have := hok.ml; have := hok.jl; omega
    have hw : wrap64 (((j + 1 : Nat) : Int) - 1) = (j : Int) := by rw [w64 (by omega) (by omega)]; omega
    rw [gasworksref06_Is.f, if_neg (by omega), hw, has_ok hs (by omega) (by omega), Option.bind_some, PipeMath.fed]
    cases hb : s.testBit j
    · rw [if_neg (by simp)]
      rfl
    · rw [if_pos rfl, if_pos (by omega), if_pos (by omega)]
      have hm := mains_ok hok.mok j (by omega)
      have hp : (rd_T54 ms j).f0 = (((netM js ms).par j : Nat) : Int) := by
        show _ = ((min (rd_T54 ms j).f0.toNat j : Nat) : Int)
        omega
      have hle := (netM js ms).le j
      rw [hp, is_ok hok hs ((netM js ms).par j) k (by omega) (by omega)]
      rfl
termination_by j => j
/-- May a main's valve stand so? -/
def mayK (ms : List S54) (s t : Nat) : Bool := !((rd_T54 ms t).f2 == 0 && !s.testBit t) && !((rd_T54 ms t).f2 == 1 && s.testBit t)
def mayTo (ms : List S54) (s : Nat) : Nat → Nat → Bool
  | 0, _ => true
  | d + 1, i => mayK ms s i && mayTo ms s d (i + 1)
theorem may_l0 {lo hi : Int} {js : List S50} {ms : List S54} (hok : NetOk lo hi js ms) {s : Nat} (hs : s < 65536) : ∀ (d i k : Nat), i + d = ms.length → 2 * d + 20 ≤ k → gasworksref06_may.l0 k (s : Int) (i : Int) lo hi js ms = some (mayTo ms s d i)
  | 0, i, k, h, hk => by
    obtain ⟨k, rfl⟩ : ∃ k', k = k' + 1 := ⟨k - 1, by omega⟩
    rw [gasworksref06_may.l0, if_neg (by omega)]
    rfl
  | d + 1, i, k, h, hk => by
    obtain ⟨k, rfl⟩ : ∃ k', k = k' + 1 + 1 := ⟨k - 2, by omega⟩
    have hl : ms.length ≤ 8 := by have := hok.ml; have := hok.jl; omega
    have ih := may_l0 hok hs d (i + 1) k (by omega) (by omega)
    have hw : wrap64 ((i : Int) + 1) = ((i + 1 : Nat) : Int) := by rw [w64 (by omega) (by omega)]; omega
    rw [gasworksref06_may.l0, if_pos (by omega), if_pos (by omega), has_ok hs (by omega) (by omega)]
    have hj : ∀ b, gasworksref06_may.j1 (k + 1) (s : Int) (i : Int) b lo hi js ms = if b = true then some false else some (mayTo ms s d (i + 1)) := fun b => by
      rw [gasworksref06_may.j1, hw, ih]
    simp only [Option.bind_some, hj, mayTo, mayK]
    by_cases h0 : (rd_T54 ms (i : Int)).f2 = 0
    · rw [if_pos h0]
      have h1 : ¬ (rd_T54 ms (i : Int)).f2 = 1 := by omega
      cases hb : s.testBit i <;> simp [h0]
    · rw [if_neg h0]
      by_cases h1 : (rd_T54 ms (i : Int)).f2 = 1
      · rw [if_pos h1]
        cases hb : s.testBit i <;> simp [h1]
      · rw [if_neg h1]
        simp [h0, h1]
theorem may_ok {lo hi : Int} {js : List S50} {ms : List S54} (hok : NetOk lo hi js ms) {s : Nat} (hs : s < 65536) {k : Nat} (hk : 40 ≤ k) : gasworksref06_may.f k lo hi js ms (s : Int) = some (mayTo ms s ms.length 0) := by
  have hl : ms.length ≤ 8 := by have := hok.ml; have := hok.jl; omega
  exact may_l0 hok hs ms.length 0 k (by omega) (by omega)
/-- The valves of a network. -/
def valM (ms : List S54) : PipeMath.Valves where
  opn := fun k => (rd_T54 ms k).f2 == 0
  doubt := fun k => (rd_T54 ms k).f2 == 2
theorem mayTo_iff {ms : List S54} (hm : anyM 0 ms = false) (s : Nat) : mayTo ms s ms.length 0 = true ↔ PipeMath.may (valM ms) ms.length s.testBit := by
  have h1 : ∀ (d i : Nat), mayTo ms s d i = true ↔ ∀ t, i ≤ t → t < i + d → mayK ms s t = true := by
    intro d
    induction d with
    | zero => intro i; simp only [mayTo, true_iff]; intro t h1 h2; omega
    | succ d ih =>
      intro i
      rw [mayTo, Bool.and_eq_true, ih (i + 1)]
      constructor
      · rintro ⟨h, h2⟩ t ht1 ht2
        by_cases e : t = i
        · rw [e]; exact h
        · exact h2 t (by omega) (by omega)
      · intro h
        exact ⟨h i (by omega) (by omega), fun t a b => h t (by omega) (by omega)⟩
  rw [h1]
  unfold PipeMath.may
  constructor
  · intro h t ht
    have hk := h t (by omega) (by omega)
    have hr := (mains_ok hm t ht).2.2.1
    simp only [mayK, Bool.and_eq_true, Bool.not_eq_true', Bool.and_eq_false_iff, Bool.not_eq_false', beq_eq_false_iff_ne, ne_eq] at hk
    simp only [valM, beq_iff_eq, beq_eq_false_iff_ne, ne_eq]
    refine ⟨fun h0 => hk.1.resolve_left (fun h => h h0), fun h0 h2 => ?_⟩
    have e1 : (rd_T54 ms (t : Int)).f2 = 1 := by omega
    exact hk.2.resolve_left (fun h => h e1)
  · intro h t _ ht
    have hk := h t (by omega)
    simp only [valM, beq_iff_eq, beq_eq_false_iff_ne, ne_eq] at hk
    simp only [mayK, Bool.and_eq_true, Bool.not_eq_true', Bool.and_eq_false_iff, Bool.not_eq_false', beq_eq_false_iff_ne, ne_eq]
    refine ⟨?_, ?_⟩
    · by_cases h0 : (rd_T54 ms (t : Int)).f2 = 0
      · exact .inr (hk.1 h0)
      · exact .inl h0
    · by_cases h1 : (rd_T54 ms (t : Int)).f2 = 1
      · exact .inr (hk.2 (by omega) (by omega))
      · exact .inl h1
theorem behind_ok {lo hi : Int} {js : List S50} {ms : List S54} (hok : NetOk lo hi js ms) {t : Nat} (ht : t < ms.length) : ∀ (j k : Nat), j ≤ ms.length → j + 1 ≤ k → gasworksref06_behind.f k lo hi js ms (t : Int) (j : Int) = some (PipeMath.behind (netM js ms) t j)
  | 0, k, _, hk => by
    have hl : ms.length ≤ 8 := by have := hok.ml; have := hok.jl; omega
    obtain ⟨k, rfl⟩ : ∃ k', k = k' + 1 := ⟨k - 1, by omega⟩
    rw [gasworksref06_behind.f, w64 (by omega) (by omega), if_neg (by omega), if_neg (by omega), PipeMath.behind]
  | j + 1, k, hj, hk => by
    have hl : ms.length ≤ 8 := by have := hok.ml; have := hok.jl; omega
    obtain ⟨k, rfl⟩ : ∃ k', k = k' + 1 := ⟨k - 1, by omega⟩
    have hw : wrap64 (((j + 1 : Nat) : Int) - 1) = (j : Int) := by rw [w64 (by omega) (by omega)]; omega
    rw [gasworksref06_behind.f, w64 (n := (t : Int) + 1) (by omega) (by omega), PipeMath.behind, hw]
    by_cases e : j = t
    · subst e
      rw [if_pos (by omega)]
      simp
    · rw [if_neg (by omega), if_pos (by omega), if_pos (by omega), if_pos (by omega)]
      have hm := mains_ok hok.mok j (by omega)
      have hp : (rd_T54 ms j).f0 = (((netM js ms).par j : Nat) : Int) := by
        show _ = ((min (rd_T54 ms j).f0.toNat j : Nat) : Int)
        omega
      have hle := (netM js ms).le j
      rw [hp, behind_ok hok ht ((netM js ms).par j) k (by omega) (by omega)]
      have e2 : (j == t) = false := by simpa using e
      rw [e2]
      simp
termination_by j => j
/-- What is drawn, as a list. -/
def DrawnOk (js : List S50) (l : List Int) : Prop := l.length = js.length ∧ ∀ j : Nat, 0 ≤ rd l j ∧ rd l j ≤ 1000000
theorem sumN_bd {f : Nat → Int} {b : Int} (h : ∀ i, 0 ≤ f i ∧ f i ≤ b) : ∀ n, 0 ≤ PipeMath.sumN f n ∧ PipeMath.sumN f n ≤ b * n
  | 0 => by simp [PipeMath.sumN]
  | n + 1 => by
    have h1 := sumN_bd h n
    have h2 := h n
    simp only [PipeMath.sumN]
    have : b * ((n + 1 : Nat) : Int) = b * n + b := by rw [Int.natCast_add, Int.mul_add]; simp
    omega
theorem through_l0 {lo hi : Int} {js : List S50} {ms : List S54} (hok : NetOk lo hi js ms) {s : Nat} (hs : s < 65536) {t : Nat} (ht : t < ms.length) {l : List Int} (hl : DrawnOk js l) : ∀ (d i k : Nat), i + d = js.length → 2 * d + 40 ≤ k → gasworksref06_Through.l0 k (s : Int) (t : Int) l (PipeMath.sumN (fun j => if PipeMath.behind (netM js ms) t j && PipeMath.fed (netM js ms) s.testBit j then rd l j else 0) i) (i : Int) lo hi js ms = some (PipeMath.through (netM js ms) s.testBit (fun j => rd l j) t)
  | 0, i, k, h, hk => by
    obtain ⟨k, rfl⟩ : ∃ k', k = k' + 1 := ⟨k - 1, by omega⟩
    rw [gasworksref06_Through.l0, if_neg (by omega)]
    have e : i = (netM js ms).n + 1 := by show i = ms.length + 1; have := hok.ml; omega
    rw [e]
    rfl
  | d + 1, i, k, h, hk => by
    obtain ⟨k, rfl⟩ : ∃ k', k = k' + 1 + 1 := ⟨k - 2, by omega⟩
    have hml := hok.ml
    have hjl := hok.jl
    have ih := through_l0 hok hs ht hl d (i + 1) k (by omega) (by omega)
    have hw : wrap64 ((i : Int) + 1) = ((i + 1 : Nat) : Int) := by rw [w64 (by omega) (by omega)]; omega
    have hb := sumN_bd (f := fun j => if PipeMath.behind (netM js ms) t j && PipeMath.fed (netM js ms) s.testBit j then rd l j else 0) (b := 1000000) (fun j => by
      have := hl.2 j
      show 0 ≤ (if _ then rd l (j : Int) else 0 : Int) ∧ (if _ then rd l (j : Int) else 0 : Int) ≤ 1000000
      split <;> omega) i
    have hd := hl.2 i
    rw [PipeMath.sumN] at ih
    rw [gasworksref06_Through.l0, if_pos (by omega), behind_ok hok ht i (k + 1) (by omega) (by omega), Option.bind_some]
    generalize hS : PipeMath.sumN (fun j => if PipeMath.behind (netM js ms) t j && PipeMath.fed (netM js ms) s.testBit j then rd l j else 0) i = S at ih hb ⊢
    have hj1 : gasworksref06_Through.j1 (k + 1) (s : Int) (t : Int) l S (i : Int) true lo hi js ms = gasworksref06_Through.l0 k (s : Int) (t : Int) l (S + rd l i) ((i + 1 : Nat) : Int) lo hi js ms := by
      rw [gasworksref06_Through.j1, if_pos rfl, if_pos (by omega), if_pos (by rw [hl.1]; omega), w64 (n := S + _) (by omega) (by omega), hw]
    have hj0 : gasworksref06_Through.j1 (k + 1) (s : Int) (t : Int) l S (i : Int) false lo hi js ms = gasworksref06_Through.l0 k (s : Int) (t : Int) l S ((i + 1 : Nat) : Int) lo hi js ms := by
      rw [gasworksref06_Through.j1, if_neg (by simp), hw]
    cases hbb : PipeMath.behind (netM js ms) t i
    · rw [hbb] at ih
      rw [if_neg (by simp), hj0, ← ih]
      simp
    · rw [hbb] at ih
      rw [if_pos rfl, is_ok hok hs i (k + 1) (by omega) (by omega), Option.bind_some]
      cases hf : PipeMath.fed (netM js ms) s.testBit i
      · rw [hf] at ih
        rw [hj0, ← ih]
        simp
      · rw [hf] at ih
        rw [hj1, ← ih]
        simp
theorem through_ok {lo hi : Int} {js : List S50} {ms : List S54} (hok : NetOk lo hi js ms) {s : Nat} (hs : s < 65536) {t : Nat} (ht : t < ms.length) {l : List Int} (hl : DrawnOk js l) {k : Nat} (hk : 60 ≤ k) : gasworksref06_Through.f k lo hi js ms (s : Int) (t : Int) l = some (PipeMath.through (netM js ms) s.testBit (fun j => rd l j) t) := by
  have hjl := hok.jl
  exact through_l0 hok hs ht hl js.length 0 k (by omega) (by omega)
theorem through_bd (N : PipeMath.Net) (hn : N.n ≤ 8) (O : Nat → Bool) {d : Nat → Int} (hd : ∀ j, 0 ≤ d j ∧ d j ≤ 1000000) (t : Nat) : 0 ≤ PipeMath.through N O d t ∧ PipeMath.through N O d t ≤ 9000000 := by
  have := sumN_bd (f := fun j => if PipeMath.behind N t j && PipeMath.fed N O j then d j else 0) (b := 1000000) (fun j => by
    have := hd j
    show 0 ≤ (if _ then d j else 0 : Int) ∧ (if _ then d j else 0 : Int) ≤ 1000000
    split <;> omega) (N.n + 1)
  unfold PipeMath.through
  omega
theorem at_bd {lo hi : Int} {js : List S50} {ms : List S54} (hok : NetOk lo hi js ms) (O : Nat → Bool) {d : Nat → Int} (hd : ∀ j, 0 ≤ d j ∧ d j ≤ 1000000) {src : Int} (h0 : 0 ≤ src) (h1 : src ≤ 1099511627776) : ∀ j, j ≤ ms.length → -9000000000 * (j : Int) ≤ PipeMath.at_ (netM js ms) O d src j ∧ PipeMath.at_ (netM js ms) O d src j ≤ 1099511627776
  | 0, _ => by
    rw [PipeMath.at_]
    have := junction_ok hok.jok 0
    show _ ≤ PipeMath.cap (rd_T50 js ((0 : Nat) : Int)).f3 src ∧ PipeMath.cap (rd_T50 js ((0 : Nat) : Int)).f3 src ≤ _
    unfold PipeMath.cap
    split
    · omega
    · split <;> omega
  | j + 1, hj => by
    have hl : ms.length ≤ 8 := by have := hok.ml; have := hok.jl; omega
    have h2 := junction_ok hok.jok (j + 1)
    have h3 := through_bd (netM js ms) hl O hd j
    have h4 := mains_ok hok.mok j (by omega)
    have hle := (netM js ms).le j
    have h5 := at_bd hok O hd h0 h1 ((netM js ms).par j) (by omega)
    have h6 : (netM js ms).drop j = (rd_T54 ms j).f1 := by show max 0 (rd_T54 ms j).f1 = _; omega
    rw [PipeMath.at_, h6]
    have h7 : 0 ≤ (rd_T54 ms j).f1 * PipeMath.through (netM js ms) O d j := Int.mul_nonneg h4.2.1.1 h3.1
    have h8 := Int.mul_le_mul h4.2.1.2 h3.2 h3.1 (by omega)
    show _ ≤ PipeMath.cap (rd_T50 js ((j + 1 : Nat) : Int)).f3 _ ∧ PipeMath.cap (rd_T50 js ((j + 1 : Nat) : Int)).f3 _ ≤ _
    unfold PipeMath.cap
    split
    · omega
    · split <;> omega
termination_by j => j
theorem at_j0 {lo hi : Int} {js : List S50} {ms : List S54} (hok : NetOk lo hi js ms) {j k : Nat} (hj : j ≤ ms.length) (p : Int) : gasworksref06_At.j0 (k + 1) (j : Int) p lo hi js ms = some (PipeMath.cap ((netM js ms).gov j) p) := by
  have := hok.ml
  rw [gasworksref06_At.j0, if_pos (by omega), if_pos (by omega)]
  show _ = some (PipeMath.cap (rd_T50 js (j : Int)).f3 p)
  unfold PipeMath.cap
  by_cases h : (rd_T50 js (j : Int)).f3 = -1
  · rw [if_pos h, if_pos h]
  · rw [if_neg h, if_neg h]
    unfold mn
    repeat' split
    all_goals first | rfl | (congr 1; omega)
theorem at_ok {lo hi : Int} {js : List S50} {ms : List S54} (hok : NetOk lo hi js ms) {s : Nat} (hs : s < 65536) {l : List Int} (hl : DrawnOk js l) {src : Int} (h0 : 0 ≤ src) (h1 : src ≤ 1099511627776) : ∀ (j k : Nat), j ≤ ms.length → j + 100 ≤ k → gasworksref06_At.f k lo hi js ms (s : Int) (j : Int) l src = some (PipeMath.at_ (netM js ms) s.testBit (fun j => rd l j) src j)
  | 0, k, hj, hk => by
    obtain ⟨k, rfl⟩ : ∃ k', k = k' + 1 + 1 := ⟨k - 2, by omega⟩
    rw [gasworksref06_At.f, if_neg (by omega), at_j0 hok hj, PipeMath.at_]
  | j + 1, k, hj, hk => by
    obtain ⟨k, rfl⟩ : ∃ k', k = k' + 1 + 1 := ⟨k - 2, by omega⟩
    have hn : ms.length ≤ 8 := by have := hok.ml; have := hok.jl; omega
    have hw : wrap64 (((j + 1 : Nat) : Int) - 1) = (j : Int) := by rw [w64 (by omega) (by omega)]; omega
    have hm := mains_ok hok.mok j (by omega)
    have hp : (rd_T54 ms j).f0 = (((netM js ms).par j : Nat) : Int) := by
      show _ = ((min (rd_T54 ms j).f0.toNat j : Nat) : Int)
      omega
    have hle := (netM js ms).le j
    have h2 := at_bd hok s.testBit hl.2 h0 h1 ((netM js ms).par j) (by omega)
    have h3 := through_bd (netM js ms) hn s.testBit (d := fun j => rd l j) hl.2 j
    have h4 : 0 ≤ (rd_T54 ms j).f1 * PipeMath.through (netM js ms) s.testBit (fun j => rd l j) j := Int.mul_nonneg hm.2.1.1 h3.1
    have h5 := Int.mul_le_mul hm.2.1.2 h3.2 h3.1 (by omega)
    have h6 : (netM js ms).drop j = (rd_T54 ms j).f1 := by show max 0 (rd_T54 ms j).f1 = _; omega
    rw [gasworksref06_At.f, if_pos (by omega), hw, if_pos (by omega), if_pos (by omega), hp, at_ok hok hs hl h0 h1 ((netM js ms).par j) (k + 1) (by omega) (by omega), Option.bind_some, through_ok hok hs (by omega) hl (by omega), Option.bind_some, w64 (n := (rd_T54 ms j).f1 * _) (by omega) (by omega), w64 (by omega) (by omega), at_j0 hok hj, PipeMath.at_, h6]
termination_by j => j
end Go.Proofs.Ytbjinkkmakhbaaa.Print
