/- PipeEnough: in plain words. -/
import Derived.Test.YtbjinkkmakhbaaaRZ
namespace Go.Proofs.Ytbjinkkmakhbaaa.Print
open Go.RowKit Go.Shelf Go.Proofs.YtbjinkkmakhbaaaW.PrintWords Go.Proofs.YtbjinkkmakhbaaaW.PrintLast Go.Proofs.YtbjinkkmakhbaaaW.PrintMore
set_option linter.unusedVariables false
set_option linter.unusedSimpArgs false
/-- The set of some mains, by its number. -/
def setL : List Int → Nat
  | [] => 0
  | x :: l => 2 ^ x.toNat + setL l
theorem setL_snoc : ∀ (l : List Int) (x : Int), setL (l ++ [x]) = setL l + 2 ^ x.toNat
  | [], x => by simp [setL]
  | y :: l, x => by
    show 2 ^ y.toNat + setL (l ++ [x]) = 2 ^ y.toNat + setL l + 2 ^ x.toNat
    rw [setL_snoc l x]
    omega
/-- What some mains cost. -/
def costL (ms : List S54) : List Int → Int
  | [] => 0
  | x :: l => (rd_T54 ms x).f3 + costL ms l
theorem costL_snoc (ms : List S54) : ∀ (l : List Int) (x : Int), costL ms (l ++ [x]) = costL ms l + (rd_T54 ms x).f3
  | [], x => by simp [costL]
  | y :: l, x => by
    show (rd_T54 ms y).f3 + costL ms (l ++ [x]) = (rd_T54 ms y).f3 + costL ms l + (rd_T54 ms x).f3
    rw [costL_snoc ms l x]
    omega
theorem mod_succ (t k : Nat) : t % 2 ^ (k + 1) = t % 2 ^ k + (if t.testBit k then 2 ^ k else 0) := by
  rw [Nat.testBit_eq_decide_div_mod_eq, Nat.mod_pow_succ]
  have h := Nat.mod_two_eq_zero_or_one (t / 2 ^ k)
  rcases h with h | h <;> simp [h]
theorem setL_list (t : Nat) : ∀ k, setL (listL t k) = t % 2 ^ k
  | 0 => by
    rw [listL, setL, Nat.pow_zero]
    omega
  | k + 1 => by
    rw [mod_succ, listL]
    by_cases h : t.testBit k = true
    · rw [if_pos h, if_pos h, setL_snoc, setL_list t k, Int.toNat_natCast]
    · rw [if_neg h, if_neg h, List.append_nil, setL_list t k, Nat.add_zero]
theorem costL_list {ms : List S54} (t : Nat) : ∀ k, k ≤ ms.length → costL ms (listL t k) = costN t 0 (ms.take k)
  | 0, _ => by
    rw [listL, costL, List.take_zero]
    rfl
  | k + 1, hk => by
    rw [cost_succ t ms k (by omega), listL]
    by_cases h : t.testBit k = true
    · rw [if_pos h, if_pos h, costL_snoc, costL_list t k (by omega)]
    · rw [if_neg h, if_neg h, List.append_nil, costL_list t k (by omega), Int.add_zero]
/-- The mains of a set: each in it, below n, and rising. -/
theorem listL_at (t : Nat) : ∀ (k i : Nat), i < (listL t k).length → ∃ q : Nat, rd (listL t k) (i : Int) = (q : Int) ∧ q < k ∧ t.testBit q = true
  | 0, i, h => by simp [listL] at h
  | k + 1, i, h => by
    rw [listL] at h ⊢
    by_cases hb : t.testBit k = true
    · rw [if_pos hb] at h ⊢
      by_cases hi : i < (listL t k).length
      · obtain ⟨q, h1, h2, h3⟩ := listL_at t k i hi
        refine ⟨q, ?_, by omega, h3⟩
        rw [← h1]
        unfold rd
        rw [Int.toNat_natCast, List.getD_eq_getElem?_getD, List.getD_eq_getElem?_getD, List.getElem?_append_left hi]
      · have e : i = (listL t k).length := by simp at h; omega
        refine ⟨k, ?_, by omega, hb⟩
        unfold rd
        rw [Int.toNat_natCast, List.getD_eq_getElem?_getD, e, List.getElem?_append_right (Nat.le_refl _), Nat.sub_self]
        rfl
    · rw [if_neg hb, List.append_nil] at h ⊢
      obtain ⟨q, h1, h2, h3⟩ := listL_at t k i h
      exact ⟨q, h1, by omega, h3⟩
theorem listL_rise (t : Nat) : ∀ (k i : Nat), i + 1 < (listL t k).length → rd (listL t k) (i : Int) < rd (listL t k) ((i + 1 : Nat) : Int)
  | 0, i, h => by simp [listL] at h
  | k + 1, i, h => by
    rw [listL] at h ⊢
    by_cases hb : t.testBit k = true
    · rw [if_pos hb] at h ⊢
      have hi : i < (listL t k).length := by simp at h; omega
      have e1 : rd (listL t k ++ [(k : Int)]) (i : Int) = rd (listL t k) (i : Int) := by
        unfold rd
        rw [Int.toNat_natCast, List.getD_eq_getElem?_getD, List.getD_eq_getElem?_getD, List.getElem?_append_left hi]
      rw [e1]
      by_cases hi2 : i + 1 < (listL t k).length
      · have e2 : rd (listL t k ++ [(k : Int)]) ((i + 1 : Nat) : Int) = rd (listL t k) ((i + 1 : Nat) : Int) := by
          unfold rd
          rw [Int.toNat_natCast, List.getD_eq_getElem?_getD, List.getD_eq_getElem?_getD, List.getElem?_append_left hi2]
        rw [e2]
        exact listL_rise t k i hi2
      · have e : i + 1 = (listL t k).length := by omega
        obtain ⟨q, h1, h2, _⟩ := listL_at t k i hi
        have e3 : rd (listL t k ++ [(k : Int)]) ((i + 1 : Nat) : Int) = (k : Int) := by
          unfold rd
          rw [Int.toNat_natCast, List.getD_eq_getElem?_getD, e, List.getElem?_append_right (Nat.le_refl _), Nat.sub_self]
          rfl
        rw [h1, e3]
        omega
    · rw [if_neg hb, List.append_nil] at h ⊢
      exact listL_rise t k i h
theorem take_rd {l : List Int} {i : Nat} (h : i < l.length) : l.take (i + 1) = l.take i ++ [rd l (i : Int)] := by
  rw [List.take_succ_eq_append_getElem h]
  unfold rd
  rw [Int.toNat_natCast, List.getD_eq_getElem?_getD, List.getElem?_eq_getElem h]
  rfl
theorem setL_le : ∀ (l : List Int) (i : Nat), setL (l.take i) ≤ setL l
  | [], i => by simp [setL]
  | x :: l, 0 => Nat.zero_le _
  | x :: l, i + 1 => by
    have := setL_le l i
    show 2 ^ x.toNat + setL (l.take i) ≤ 2 ^ x.toNat + setL l
    omega
/-- The best of some sets is the first of the cheapest. -/
structure BestOf (l : List (Int × Int)) (b : Int × Int) : Prop where
  mem : b ∈ l
  le : ∀ x ∈ l, b.2 ≤ x.2 ∧ (x.2 = b.2 → b.1 ≤ x.1)
theorem best_step {l : List (Int × Int)} {b x : Int × Int} (h : BestOf l b) (hb : 0 ≤ b.1) (hx : ∀ y ∈ l, y.1 ≤ x.1) : BestOf (l ++ [x]) (bestS b x) := by
  unfold bestS
  by_cases hc : x.2 < b.2
  · rw [if_pos (.inr hc)]
    refine ⟨by simp, fun y hy => ?_⟩
    rw [List.mem_append, List.mem_singleton] at hy
    rcases hy with hy | rfl
    · have := h.le y hy
      exact ⟨by omega, fun e => by omega⟩
    · exact ⟨Int.le_refl _, fun _ => Int.le_refl _⟩
  · rw [if_neg (by rintro (h | h) <;> omega)]
    refine ⟨List.mem_append_left _ h.mem, fun y hy => ?_⟩
    rw [List.mem_append, List.mem_singleton] at hy
    rcases hy with hy | rfl
    · exact h.le y hy
    · exact ⟨by omega, fun _ => hx _ h.mem⟩
theorem enL_best (lo hi : Int) (js : List S50) (ms : List S54) : ∀ k, (enL lo hi js ms k = [] ∧ bestF (enL lo hi js ms k) = (-1, 0)) ∨ BestOf (enL lo hi js ms k) (bestF (enL lo hi js ms k))
  | 0 => .inl ⟨rfl, rfl⟩
  | k + 1 => by
    rw [enL]
    by_cases he : isEn lo hi js ms k = true
    · rw [if_pos he]
      right
      rw [bestF_snoc]
      rcases enL_best lo hi js ms k with ⟨h1, h2⟩ | h
      · rw [h1, List.nil_append]
        have : bestF ([] : List (Int × Int)) = (-1, 0) := rfl
        rw [this]
        unfold bestS
        rw [if_pos (.inl (by decide))]
        exact ⟨by simp, fun x hx => by
          rw [List.mem_singleton] at hx
          subst hx
          exact ⟨Int.le_refl _, fun _ => Int.le_refl _⟩⟩
      · obtain ⟨s, e, hs, _⟩ := enL_is lo hi js ms k _ h.mem
        refine best_step h (by rw [e]; exact Int.natCast_nonneg s) (fun y hy => ?_)
        obtain ⟨s2, e2, hs2, _⟩ := enL_is lo hi js ms k y hy
        rw [e2]
        show (s2 : Int) ≤ (k : Int)
        omega
    · rw [if_neg he, List.append_nil]
      exact enL_best lo hi js ms k
theorem enL_has (lo hi : Int) (js : List S50) (ms : List S54) {s : Nat} (he : isEn lo hi js ms s = true) : ∀ k, s < k → ((s : Int), costN s 0 ms) ∈ enL lo hi js ms k
  | 0, h => by omega
  | k + 1, h => by
    rw [enL, List.mem_append]
    by_cases e : s = k
    · right
      subst e
      rw [if_pos he]
      exact List.mem_singleton.2 rfl
    · left
      exact enL_has lo hi js ms he k (by omega)
/-- What Lay and Must say, at once. -/
theorem lay_case {lo hi : Int} {js : List S50} {ms : List S54} (hok : NetOk lo hi js ms) :
    (layS lo hi js ms = ([], 0, 4) ∧ mustR lo hi js ms = ([], 4) ∧ ∀ z, z < 2 ^ ms.length → isEn lo hi js ms z = false) ∨
    ∃ t S : Nat, layS lo hi js ms = (listL t ms.length, costN t 0 ms, 0) ∧ mustR lo hi js ms = (listL S ms.length, 0) ∧ t < 2 ^ ms.length ∧ isEn lo hi js ms t = true ∧
      (∀ z, z < 2 ^ ms.length → isEn lo hi js ms z = true → costN t 0 ms ≤ costN z 0 ms ∧ (costN z 0 ms = costN t 0 ms → t ≤ z)) ∧
      (∀ q, q < ms.length → S.testBit q = true → t.testBit q = true) ∧ (∀ z, z < 2 ^ ms.length → isEn lo hi js ms z = true → ∀ q, q < ms.length → S.testBit q = true → z.testBit q = true) := by
  have hn := netB_of hok
  have hl := hok.few
  unfold layS mustR
  rw [if_pos hn, if_pos hn]
  rcases enL_best lo hi js ms (2 ^ ms.length) with ⟨h1, h2⟩ | h
  · left
    rw [h2, h1]
    refine ⟨rfl, rfl, fun z hz => ?_⟩
    cases he : isEn lo hi js ms z
    · rfl
    · have := enL_has lo hi js ms he _ hz
      rw [h1] at this
      simp at this
  · right
    obtain ⟨t, e, ht, he⟩ := enL_is lo hi js ms _ _ h.mem
    have hne : enL lo hi js ms (2 ^ ms.length) ≠ [] := fun e0 => by
      have := h.mem
      rw [e0] at this
      simp at this
    have hm2 : (mustF (2 ^ ms.length) (enL lo hi js ms (2 ^ ms.length))).2 = true := by
      unfold mustF
      rw [mustF_some]
      cases hE : enL lo hi js ms (2 ^ ms.length) with
      | nil => exact absurd hE hne
      | cons => rfl
    have hall : ∀ z, z < 2 ^ ms.length → isEn lo hi js ms z = true → ∀ q, q < ms.length → (mustF (2 ^ ms.length) (enL lo hi js ms (2 ^ ms.length))).1.testBit q = true → z.testBit q = true := fun z hz hez q hq hb => by
      rw [must_bit hq] at hb
      unfold allIn at hb
      have := List.all_eq_true.1 hb _ (enL_has lo hi js ms hez _ hz)
      simpa using this
    refine ⟨t, (mustF (2 ^ ms.length) (enL lo hi js ms (2 ^ ms.length))).1, ?_, ?_, ht, he, fun z hz hez => ?_, hall t ht he, hall⟩
    · rw [e, if_neg (by show ¬ (t : Int) < 0; omega)]
      show (listL (Int.toNat (t : Int)) 8, costN t 0 ms, (0 : Int)) = _
      rw [Int.toNat_natCast, listL_low ht 8 hl]
    · rw [hm2, if_neg (by decide), listL_low (must_lt _) 8 hl]
    · have hx := h.le _ (enL_has lo hi js ms hez _ hz)
      rw [e] at hx
      exact ⟨hx.1, fun ee => Int.ofNat_le.1 (hx.2 ee)⟩
end Go.Proofs.Ytbjinkkmakhbaaa.Print
