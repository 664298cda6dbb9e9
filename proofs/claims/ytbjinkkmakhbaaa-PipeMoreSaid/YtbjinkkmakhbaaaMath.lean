/- Pipe: trees of mains, which junctions are fed, what flows, and pressures, in plain Lean. -/
set_option linter.unusedVariables false
namespace PipeMath
/-- A tree: main k feeds junction k + 1 from junction par k ≤ k. -/
structure Net where
  n : Nat                 -- how many mains
  par : Nat → Nat
  drop : Nat → Int
  gov : Nat → Int         -- -1: none
  le : ∀ k, par k ≤ k
  dropNn : ∀ k, 0 ≤ drop k
variable (N : Net)
def fed (O : Nat → Bool) : Nat → Bool
  | 0 => true
  | k + 1 => O k && fed O (N.par k)
termination_by j => j
decreasing_by exact Nat.lt_succ_of_le (N.le k)
def behind (k : Nat) : Nat → Bool
  | 0 => false
  | j + 1 => j == k || behind k (N.par j)
termination_by j => j
decreasing_by exact Nat.lt_succ_of_le (N.le j)
def sumN (f : Nat → Int) : Nat → Int
  | 0 => 0
  | k + 1 => sumN f k + f k
def through (O : Nat → Bool) (d : Nat → Int) (k : Nat) : Int := sumN (fun j => if behind N k j && fed N O j then d j else 0) (N.n + 1)
def cap (g p : Int) : Int := if g = -1 then p else if g < p then g else p
def at_ (O : Nat → Bool) (d : Nat → Int) (s : Int) : Nat → Int
  | 0 => cap (N.gov 0) s
  | k + 1 => cap (N.gov (k + 1)) (at_ O d s (N.par k) - N.drop k * through N O d k)
termination_by j => j
decreasing_by exact Nat.lt_succ_of_le (N.le k)
theorem sumN_mono {f g : Nat → Int} (h : ∀ k, f k ≤ g k) : ∀ n, sumN f n ≤ sumN g n
  | 0 => Int.le_refl _
  | n + 1 => by
    have := sumN_mono h n
    have := h n
    simp only [sumN]
    omega
theorem sumN_nn {f : Nat → Int} (h : ∀ k, 0 ≤ f k) : ∀ n, 0 ≤ sumN f n
  | 0 => Int.le_refl _
  | n + 1 => by
    have := sumN_nn h n
    have := h n
    simp only [sumN]
    omega
theorem cap_mono {g p q : Int} (h : p ≤ q) : cap g p ≤ cap g q := by
  unfold cap
  split
  · exact h
  · split <;> split <;> omega
theorem fed_mono {O O' : Nat → Bool} (h : ∀ k, O k = true → O' k = true) : ∀ j, fed N O j = true → fed N O' j = true
  | 0, _ => by rw [fed]
  | k + 1, hj => by
    rw [fed, Bool.and_eq_true] at hj ⊢
    have := N.le k
    exact ⟨h k hj.1, fed_mono h (N.par k) hj.2⟩
termination_by j => j
theorem through_mono {O O' : Nat → Bool} {d d' : Nat → Int} (h : ∀ k, O k = true → O' k = true) (hd : ∀ j, d j ≤ d' j) (h0 : ∀ j, 0 ≤ d' j) (k : Nat) : through N O d k ≤ through N O' d' k := by
  refine sumN_mono (fun j => ?_) _
  by_cases hb : behind N k j && fed N O j
  · rw [if_pos hb]
    rw [Bool.and_eq_true] at hb
    rw [if_pos (by rw [Bool.and_eq_true]; exact ⟨hb.1, fed_mono N h j hb.2⟩)]
    exact hd j
  · rw [if_neg hb]
    split
    · exact h0 j
    · exact Int.le_refl _
theorem through_nn {O : Nat → Bool} {d : Nat → Int} (h0 : ∀ j, 0 ≤ d j) (k : Nat) : 0 ≤ through N O d k :=
  sumN_nn (fun j => by split; exact h0 j; exact Int.le_refl _) _
/-- The more is open and drawn, and the less pressure the works have, the less there is everywhere. -/
theorem at_mono {O O' : Nat → Bool} {d d' : Nat → Int} {s s' : Int} (h : ∀ k, O k = true → O' k = true) (hd : ∀ j, d j ≤ d' j) (h0 : ∀ j, 0 ≤ d' j) (hs : s' ≤ s) : ∀ j, at_ N O' d' s' j ≤ at_ N O d s j
  | 0 => by rw [at_, at_]; exact cap_mono hs
  | k + 1 => by
    have := N.le k
    rw [at_, at_]
    refine cap_mono ?_
    have h1 := at_mono h hd h0 hs (N.par k)
    have h2 := Int.mul_le_mul_of_nonneg_left (through_mono N h hd h0 k) (N.dropNn k)
    omega
termination_by j => j
/-! ### Valves -/
/-- 0: open, 1: shut, 2: doubtful (as the document numbers them: see the row). -/
structure Valves where
  opn : Nat → Bool
  doubt : Nat → Bool
def may (V : Valves) (n : Nat) (O : Nat → Bool) : Prop := ∀ k, k < n → (V.opn k = true → O k = true) ∧ (V.opn k = false → V.doubt k = false → O k = false)
/-- All that can be open is. -/
def allOpen (V : Valves) : Nat → Bool := fun k => V.opn k || V.doubt k
theorem fed_iff (O : Nat → Bool) : ∀ j, fed N O j = true ↔ ∀ k, behind N k j = true → O k = true
  | 0 => by
    rw [fed]
    simp only [true_iff]
    intro k hk
    rw [behind] at hk
    cases hk
  | i + 1 => by
    have := N.le i
    rw [fed, Bool.and_eq_true, fed_iff O (N.par i)]
    constructor
    · rintro ⟨h1, h2⟩ k hk
      rw [behind, Bool.or_eq_true, beq_iff_eq] at hk
      rcases hk with rfl | hk
      · exact h1
      · exact h2 k hk
    · intro h
      refine ⟨h i (by rw [behind]; simp), fun k hk => h k (by rw [behind, hk]; simp)⟩
termination_by j => j
/-- A main on the way to a junction has a number below it. -/
theorem behind_lt (k : Nat) : ∀ j, behind N k j = true → k < j
  | 0, h => by rw [behind] at h; cases h
  | i + 1, h => by
    have hle := N.le i
    rw [behind, Bool.or_eq_true, beq_iff_eq] at h
    rcases h with rfl | h
    · omega
    · have := behind_lt k (N.par i) h
      omega
termination_by j => j
theorem fed_congr {O O' : Nat → Bool} (j : Nat) (h : ∀ k, k < j → O k = O' k) : fed N O j = fed N O' j := by
  rw [Bool.eq_iff_iff, fed_iff, fed_iff]
  constructor
  · intro h2 k hk
    rw [← h k (behind_lt N k j hk)]
    exact h2 k hk
  · intro h2 k hk
    rw [h k (behind_lt N k j hk)]
    exact h2 k hk
theorem sumN_congr {f g : Nat → Int} : ∀ n, (∀ k, k < n → f k = g k) → sumN f n = sumN g n
  | 0, _ => rfl
  | n + 1, h => by simp only [sumN]; rw [sumN_congr n (fun k hk => h k (by omega)), h n (by omega)]
theorem through_congr {O O' : Nat → Bool} {d d' : Nat → Int} (h : ∀ k, k < N.n → O k = O' k) (hd : ∀ j, j ≤ N.n → d j = d' j) (k : Nat) : through N O d k = through N O' d' k := by
  refine sumN_congr _ (fun j hj => ?_)
  rw [fed_congr N j (fun k hk => h k (by omega)), hd j (by omega)]
theorem at_congr {O O' : Nat → Bool} {d d' : Nat → Int} (s : Int) (h : ∀ k, k < N.n → O k = O' k) (hd : ∀ j, j ≤ N.n → d j = d' j) : ∀ j, at_ N O d s j = at_ N O' d' s j
  | 0 => by rw [at_, at_]
  | k + 1 => by
    have := N.le k
    rw [at_, at_, at_congr s h hd (N.par k), through_congr N h hd k]
termination_by j => j
/-! ### Which valves may stand how -/
def onlyWay (V : Valves) (j : Nat) : Nat → Bool := fun k => V.opn k || (V.doubt k && behind N k j)
theorem may_le_all {V : Valves} {O : Nat → Bool} (h : may V N.n O) (k : Nat) (hk : k < N.n) (hO : O k = true) : allOpen V k = true := by
  unfold allOpen
  cases h1 : V.opn k
  · cases h2 : V.doubt k
    · have := (h k hk).2 h1 h2
      rw [this] at hO
      cases hO
    · rfl
  · rfl
theorem way_le_may {V : Valves} {O : Nat → Bool} {j : Nat} (h : may V N.n O) (hf : fed N O j = true) (k : Nat) (hk : k < N.n) (hO : onlyWay N V j k = true) : O k = true := by
  unfold onlyWay at hO
  rw [Bool.or_eq_true, Bool.and_eq_true] at hO
  rcases hO with hO | hO
  · exact (h k hk).1 hO
  · exact (fed_iff N O j).1 hf k hO.2
theorem may_all {V : Valves} : may V N.n (allOpen V) := fun k _ => ⟨fun h => by simp [allOpen, h], fun h1 h2 => by simp [allOpen, h1, h2]⟩
theorem may_way {V : Valves} (j : Nat) : may V N.n (onlyWay N V j) := fun k _ => ⟨fun h => by simp [onlyWay, h], fun h1 h2 => by simp [onlyWay, h1, h2]⟩
theorem may_opn {V : Valves} : may V N.n V.opn := fun k _ => ⟨fun h => h, fun h _ => h⟩
/-- Some truth feeds it just if all that can be open does. -/
theorem some_fed {V : Valves} {j : Nat} (hj : j ≤ N.n) : (∃ O, may V N.n O ∧ fed N O j = true) ↔ fed N (allOpen V) j = true := by
  constructor
  · rintro ⟨O, h, hf⟩
    rw [fed_iff] at hf ⊢
    intro k hk
    exact may_le_all N h k (by have := behind_lt N k j hk; omega) (hf k hk)
  · intro h
    exact ⟨_, may_all N, h⟩
theorem all_fed {V : Valves} {j : Nat} (hj : j ≤ N.n) : (∀ O, may V N.n O → fed N O j = true) ↔ fed N V.opn j = true := by
  constructor
  · intro h
    exact h _ (may_opn N)
  · intro h O hO
    rw [fed_iff] at h ⊢
    intro k hk
    exact (hO k (by have := behind_lt N k j hk; omega)).1 (h k hk)
theorem way_fed {V : Valves} {j : Nat} (h : fed N (allOpen V) j = true) : fed N (onlyWay N V j) j = true := by
  rw [fed_iff] at h ⊢
  intro k hk
  have := h k hk
  unfold allOpen at this
  unfold onlyWay
  rw [Bool.or_eq_true] at this ⊢
  rcases this with h | h
  · exact .inl h
  · exact .inr (by rw [h, hk]; rfl)
/-! The mains beyond n do not count: sets are cut to them. -/
def cut (n : Nat) (O : Nat → Bool) : Nat → Bool := fun k => decide (k < n) && O k
theorem cut_at (O : Nat → Bool) (d : Nat → Int) (s : Int) (j : Nat) : at_ N (cut N.n O) d s j = at_ N O d s j :=
  at_congr N s (fun k hk => by simp [cut, hk]) (fun _ _ => rfl) j
theorem least_at {V : Valves} {O : Nat → Bool} {d : Nat → Int} {s : Int} (h : may V N.n O) (h0 : ∀ j, 0 ≤ d j) (j : Nat) : at_ N (allOpen V) d s j ≤ at_ N O d s j := by
  rw [← cut_at N O, ← cut_at N (allOpen V)]
  refine at_mono N (fun k hk => ?_) (fun _ => Int.le_refl _) h0 (Int.le_refl _) j
  simp only [cut, Bool.and_eq_true, decide_eq_true_eq] at hk ⊢
  exact ⟨hk.1, may_le_all N h k hk.1 hk.2⟩
theorem most_at {V : Valves} {O : Nat → Bool} {d : Nat → Int} {s : Int} {j : Nat} (h : may V N.n O) (hf : fed N O j = true) (h0 : ∀ j, 0 ≤ d j) : at_ N O d s j ≤ at_ N (onlyWay N V j) d s j := by
  rw [← cut_at N O, ← cut_at N (onlyWay N V j)]
  refine at_mono N (fun k hk => ?_) (fun _ => Int.le_refl _) h0 (Int.le_refl _) j
  simp only [cut, Bool.and_eq_true, decide_eq_true_eq] at hk ⊢
  exact ⟨hk.1, way_le_may N h hf k hk.1 hk.2⟩
/-! ### What flows: the sum over the branches is that over all junctions -/
def subr (j : Nat) : Nat → Bool
  | 0 => 0 == j
  | i + 1 => i + 1 == j || subr j (N.par i)
termination_by i => i
decreasing_by exact Nat.lt_succ_of_le (N.le i)
theorem behind_subr (k : Nat) : ∀ i, behind N k i = subr N (k + 1) i
  | 0 => by rw [behind, subr]; rfl
  | i + 1 => by
    have := N.le i
    rw [behind, subr, behind_subr k (N.par i)]
    congr 1
    rw [Bool.eq_iff_iff, beq_iff_eq, beq_iff_eq]
    omega
termination_by i => i
theorem subr_le (j : Nat) : ∀ i, subr N j i = true → j ≤ i
  | 0, h => by rw [subr, beq_iff_eq] at h; omega
  | i + 1, h => by
    have hle := N.le i
    rw [subr, Bool.or_eq_true, beq_iff_eq] at h
    rcases h with h | h
    · omega
    · have := subr_le j (N.par i) h
      omega
termination_by i => i
theorem subr_fed (O : Nat → Bool) (j : Nat) : ∀ i, subr N j i = true → fed N O i = true → fed N O j = true
  | 0, h, hf => by
    rw [subr, beq_iff_eq] at h
    rw [← h]
    exact hf
  | i + 1, h, hf => by
    have hle := N.le i
    rw [subr, Bool.or_eq_true, beq_iff_eq] at h
    rcases h with h | h
    · rw [← h]
      exact hf
    · rw [fed, Bool.and_eq_true] at hf
      exact subr_fed O j (N.par i) h hf.2
termination_by i => i
/-- The junctions that a junction feeds, in order. -/
def kids (j : Nat) : List Nat := ((List.range N.n).filter fun k => N.par k == j).map (· + 1)
def sumL : List Int → Int
  | [] => 0
  | x :: l => x + sumL l
theorem sumL_append : ∀ a b : List Int, sumL (a ++ b) = sumL a + sumL b
  | [], b => by simp [sumL]
  | x :: a, b => by simp only [List.cons_append, sumL, sumL_append a b]; omega
def ind (b : Bool) : Int := if b then 1 else 0
theorem sumL_zero {α : Type} (g : α → Int) : ∀ l : List α, (∀ x ∈ l, g x = 0) → sumL (l.map g) = 0
  | [], _ => rfl
  | x :: l, h => by
    simp only [List.map_cons, sumL]
    rw [h x (by simp), sumL_zero g l (fun y hy => h y (by simp [hy]))]
    rfl
theorem sumL_add {α : Type} (g h : α → Int) : ∀ l : List α, sumL (l.map fun x => g x + h x) = sumL (l.map g) + sumL (l.map h)
  | [] => rfl
  | x :: l => by simp only [List.map_cons, sumL, sumL_add g h l]; omega
theorem sumL_congr {α : Type} {g h : α → Int} : ∀ l : List α, (∀ x ∈ l, g x = h x) → sumL (l.map g) = sumL (l.map h)
  | [], _ => rfl
  | x :: l, e => by
    simp only [List.map_cons, sumL]
    rw [e x (by simp), sumL_congr l (fun y hy => e y (by simp [hy]))]
theorem mem_kids {j c : Nat} : c ∈ kids N j ↔ ∃ k, k < N.n ∧ N.par k = j ∧ c = k + 1 := by
  unfold kids
  rw [List.mem_map]
  constructor
  · rintro ⟨k, hk, rfl⟩
    rw [List.mem_filter, List.mem_range, beq_iff_eq] at hk
    exact ⟨k, hk.1, hk.2, rfl⟩
  · rintro ⟨k, h1, h2, rfl⟩
    exact ⟨k, by rw [List.mem_filter, List.mem_range, beq_iff_eq]; exact ⟨h1, h2⟩, rfl⟩
theorem range_one (i : Nat) : ∀ n, sumL ((List.range n).map fun k => ind (i == k)) = ind (decide (i < n))
  | 0 => by simp [sumL, ind]
  | n + 1 => by
    rw [List.range_succ, List.map_append, sumL_append, range_one i n]
    simp only [List.map_cons, List.map_nil, sumL, ind]
    by_cases h : i = n
    · subst h; simp
    · have e1 : (i == n) = false := by simpa using h
      have e2 : decide (i < n + 1) = decide (i < n) := by rw [Bool.eq_iff_iff]; simp only [decide_eq_true_eq]; omega
      rw [e1, e2]
      simp
theorem filter_one (p : Nat → Bool) (i : Nat) : ∀ l : List Nat, sumL ((l.filter p).map fun k => ind (i == k)) = if p i then sumL (l.map fun k => ind (i == k)) else 0
  | [] => by simp [sumL]
  | x :: l => by
    rw [List.filter_cons]
    have ih := filter_one p i l
    by_cases hx : p x = true
    · rw [if_pos hx, List.map_cons, List.map_cons, sumL, sumL, ih]
      by_cases hi : p i = true
      · rw [if_pos hi, if_pos hi]
      · rw [if_neg hi, if_neg hi]
        have : (i == x) = false := by
          rw [beq_eq_false_iff_ne]
          rintro rfl
          exact hi hx
        simp [ind, this]
    · rw [if_neg hx, ih]
      by_cases hi : p i = true
      · rw [if_pos hi, if_pos hi, List.map_cons, sumL]
        have : (i == x) = false := by
          rw [beq_eq_false_iff_ne]
          rintro rfl
          exact hx hi
        simp [ind, this]
      · rw [if_neg hi, if_neg hi]
theorem kids_one (j i : Nat) (hi : i < N.n) : sumL ((kids N j).map fun c => ind (i + 1 == c)) = ind (N.par i == j) := by
  unfold kids
  rw [List.map_map]
  have e : ((fun c => ind (i + 1 == c)) ∘ fun x => x + 1) = fun k => ind (i == k) := by
    funext k
    simp only [Function.comp]
    congr 1
    rw [Bool.eq_iff_iff, beq_iff_eq, beq_iff_eq]
    omega
  rw [e, filter_one, range_one]
  by_cases h : (N.par i == j) = true
  · rw [if_pos h, h]
    simp [ind, hi]
  · rw [if_neg h]
    simp only [Bool.not_eq_true] at h
    rw [h]
    rfl
/-- Who is fed by way of j: j itself, or who is fed by way of one that j feeds. -/
theorem ind_subr (j : Nat) : ∀ i, i ≤ N.n → ind (subr N j i) = ind (i == j) + sumL ((kids N j).map fun c => ind (subr N c i))
  | 0, _ => by
    rw [subr, sumL_zero]
    · omega
    · intro c hc
      obtain ⟨k, _, _, rfl⟩ := (mem_kids N).1 hc
      rw [subr]
      rfl
  | i + 1, hi => by
    have hle := N.le i
    have ih := ind_subr j (N.par i) (by omega)
    have e : sumL ((kids N j).map fun c => ind (subr N c (i + 1))) = sumL ((kids N j).map fun c => ind (i + 1 == c) + ind (subr N c (N.par i))) := by
      refine sumL_congr _ (fun c hc => ?_)
      rw [subr]
      by_cases h : i + 1 = c
      · subst h
        have h2 : subr N (i + 1) (N.par i) = false := by
          cases hh : subr N (i + 1) (N.par i)
          · rfl
          · have := subr_le N (i + 1) (N.par i) hh
            omega
        rw [h2]
        simp [ind]
      · have : (i + 1 == c) = false := by simpa using h
        rw [this]
        simp [ind]
    rw [e, sumL_add, kids_one N j i (by omega), subr]
    by_cases h : i + 1 = j
    · subst h
      have h2 : subr N (i + 1) (N.par i) = false := by
        cases hh : subr N (i + 1) (N.par i)
        · rfl
        · have := subr_le N (i + 1) (N.par i) hh
          omega
      rw [h2] at ih ⊢
      simp only [BEq.rfl, Bool.true_or]
      simp only [ind] at ih ⊢
      simp only [if_true] at ih ⊢
      simp only [Bool.false_eq_true, if_false] at ih
      omega
    · have h1 : (i + 1 == j) = false := by simpa using h
      rw [h1, Bool.false_or, ih]
      simp only [ind]
      simp
termination_by i => i
/-- All that is drawn at, or by way of, a junction that is fed. -/
def drawn (O : Nat → Bool) (d : Nat → Int) (j : Nat) : Int := sumN (fun i => if subr N j i && fed N O i then d i else 0) (N.n + 1)
theorem through_drawn (O : Nat → Bool) (d : Nat → Int) (k : Nat) : through N O d k = drawn N O d (k + 1) := by
  unfold through drawn
  exact sumN_congr _ (fun i _ => by rw [behind_subr])
theorem sumN_add (f g : Nat → Int) : ∀ n, sumN (fun i => f i + g i) n = sumN f n + sumN g n
  | 0 => rfl
  | n + 1 => by simp only [sumN, sumN_add f g n]; omega
theorem sumN_zero {f : Nat → Int} : ∀ n, (∀ i, i < n → f i = 0) → sumN f n = 0
  | 0, _ => rfl
  | n + 1, h => by simp only [sumN]; rw [sumN_zero n (fun i hi => h i (by omega)), h n (by omega)]; rfl
theorem sumN_one (g : Nat → Int) (j : Nat) : ∀ n, j < n → sumN (fun i => if i = j then g i else 0) n = g j
  | n + 1, h => by
    simp only [sumN]
    by_cases e : n = j
    · subst e
      rw [if_pos rfl, sumN_zero n (fun i hi => if_neg (by omega))]
      omega
    · rw [if_neg e, sumN_one g j n (by omega)]
      omega
theorem sumN_sumL {α : Type} (g : α → Nat → Int) (n : Nat) : ∀ l : List α, sumN (fun i => sumL (l.map fun c => g c i)) n = sumL (l.map fun c => sumN (g c) n)
  | [] => sumN_zero n (fun _ _ => rfl)
  | x :: l => by
    simp only [List.map_cons, sumL]
    rw [sumN_add, sumN_sumL g n l]
theorem sumL_mul {α : Type} (g : α → Int) (z : Int) : ∀ l : List α, sumL (l.map fun c => g c * z) = sumL (l.map g) * z
  | [] => by simp [sumL]
  | x :: l => by simp only [List.map_cons, sumL, sumL_mul g z l, Int.add_mul]
theorem if_ind (b c : Bool) (z : Int) : (if b && c then z else 0) = ind b * (if c then z else 0) := by cases b <;> cases c <;> simp [ind]
theorem drawn_open {O : Nat → Bool} (d : Nat → Int) {j : Nat} (hj : j ≤ N.n) (hf : fed N O j = true) : drawn N O d j = d j + sumL ((kids N j).map fun c => drawn N O d c) := by
  have e : drawn N O d j = sumN (fun i => (if i = j then (if fed N O i then d i else 0) else 0) + sumL ((kids N j).map fun c => if subr N c i && fed N O i then d i else 0)) (N.n + 1) := by
    refine sumN_congr _ (fun i hi => ?_)
    rw [if_ind, ind_subr N j i (by omega), Int.add_mul, ← sumL_mul]
    congr 1
    · by_cases h : i = j
      · subst h; simp [ind]
      · have : (i == j) = false := by simpa using h
        rw [this, if_neg h]
        simp [ind]
    · exact sumL_congr _ (fun c _ => (if_ind _ _ _).symm)
  rw [e, sumN_add, sumN_one (fun i => if fed N O i then d i else 0) j _ (by omega), if_pos hf, sumN_sumL]
  rfl
theorem drawn_shut {O : Nat → Bool} (d : Nat → Int) {j : Nat} (hf : fed N O j = false) : drawn N O d j = 0 := by
  refine sumN_zero _ (fun i _ => if_neg ?_)
  rw [Bool.and_eq_true]
  rintro ⟨h1, h2⟩
  rw [subr_fed N O j i h1 h2] at hf
  cases hf
/-- A junction and all that are fed by way of it, in the order in which they are told. -/
def below (f : Nat → Bool) : Nat → Nat → List Nat
  | 0, _ => []
  | k + 1, j => if f j then j :: (kids N j).flatMap (below f k) else []
theorem sumL_flat {α : Type} (g : α → List Nat) (d : Nat → Int) : ∀ l : List α, sumL ((l.flatMap g).map d) = sumL (l.map fun c => sumL ((g c).map d))
  | [] => rfl
  | x :: l => by
    rw [List.flatMap_cons, List.map_append, sumL_append, sumL_flat g d l]
    rfl
theorem below_sum (O : Nat → Bool) (d : Nat → Int) : ∀ (k j : Nat), j ≤ N.n → N.n < j + k → sumL ((below N (fed N O) k j).map d) = drawn N O d j
  | 0, j, h1, h2 => by omega
  | k + 1, j, h1, h2 => by
    rw [below]
    by_cases hf : fed N O j = true
    · rw [if_pos hf, drawn_open N d h1 hf, List.map_cons, sumL, sumL_flat]
      congr 1
      refine sumL_congr _ (fun c hc => ?_)
      obtain ⟨m, h3, h4, rfl⟩ := (mem_kids N).1 hc
      have := N.le m
      exact below_sum O d k (m + 1) (by omega) (by omega)
    · rw [if_neg hf, drawn_shut N d (by simpa using hf)]
      rfl
end PipeMath
