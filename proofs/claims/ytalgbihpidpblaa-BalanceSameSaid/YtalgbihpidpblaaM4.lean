/- The document's Is, as a plain fact: it is a truth. -/
import Derived.Test.YtalgbihpidpblaaM1
import Derived.Test.YtalgbihpidpblaaPrint5
import Derived.IntWalk
namespace Go.Proofs.Ytalgbihpidpblaa.Print
open Go.RowKit Go.Shelf Go.Proofs.YtalgbihpidpblaaW.PrintWords Go.Proofs.YtalgbihpidpblaaW.PrintLast Go.Proofs.YtalgbihpidpblaaW.PrintMore
set_option linter.unusedVariables false
set_option linter.unusedSimpArgs false

def inGb : List S47 → List Int → Bool
  | [], [] => true
  | x :: r, n :: q => (decide (x.f2.f0 ≤ n) && decide (n ≤ x.f2.f1)) && inGb r q
  | _, _ => false
theorem inGb_iff : ∀ (l : List S47) (t : List Int), inGb l t = true ↔ inG l t
  | [], [] => by simp [inGb, inG]
  | [], _ :: _ => by simp [inGb, inG]
  | _ :: _, [] => by simp [inGb, inG]
  | x :: r, n :: q => by simp only [inGb, inG, Bool.and_eq_true, decide_eq_true_eq, inGb_iff r q]
def at1 (p : Int) : Int → Bool := fun q => q == p
def sumsZero (s : List Int) (l : List S47) (t : List Int) : Bool := decide (∀ p : Nat, p < 8 → rd s p + net (at1 p) l t = 0)
def isB (l : List S47) (t : List Int) : Bool := inGb l t && decide (∀ p : Nat, p < 8 → net (at1 p) l t = 0)

theorem rd_set_eq (s : List Int) (i : Nat) (v : Int) (h : i < s.length) : rd (s.set i v) i = v := by simp [rd, List.getD_eq_getElem?_getD, h]
theorem rd_set_ne (s : List Int) (i j : Nat) (v : Int) (h : i ≠ j) : rd (s.set i v) j = rd s j := by simp [rd, List.getD_eq_getElem?_getD, List.getElem?_set, h]

theorem is1_go (s : List Int) (hs : s.length = 8) : ∀ (d k : Nat), k + d = 8 → gasworksref04_Is.l1 (d + 1) s k = some (decide (∀ p : Nat, p < 8 → k ≤ p → rd s p = 0))
  | 0, k, h => by
    rw [gasworksref04_Is.l1, if_neg (by omega)]
    congr 1
    symm
    rw [decide_eq_true_eq]
    intro p hp hk
    omega
  | d + 1, k, h => by
    rw [gasworksref04_Is.l1, if_pos (by omega), if_pos (by omega), if_pos (by omega)]
    by_cases hz : rd s (k : Int) = 0
    · rw [if_pos hz, IntWalk.wrap64_in _ (by omega), show ((k : Int) + 1) = ((k + 1 : Nat) : Int) from by omega, is1_go s hs d (k + 1) (by omega)]
      congr 1
      rw [decide_eq_decide]
      constructor
      · intro hh p hp hk
        by_cases e : p = k
        · rw [e]; exact hz
        · exact hh p hp (by omega)
      · intro hh p hp hk
        exact hh p hp (by omega)
    · rw [if_neg hz]
      congr 1
      symm
      rw [decide_eq_false_iff_not]
      intro hh
      exact hz (hh k (by omega) (Nat.le_refl _))

theorem nx_at (x : S47) (p : Int) (n : Int) (hne : x.f0 ≠ x.f1) : nx (at1 p) x n = if x.f1 = p then n else if x.f0 = p then - n else 0 := by
  unfold nx at1
  by_cases h1 : x.f1 = p
  · have h0 : ¬ x.f0 = p := fun e => hne (e.trans h1.symm)
    have e1 : (x.f1 == p) = true := by simp [h1]
    have e0 : (x.f0 == p) = false := by simp [h0]
    rw [e0, e1]
    simp [h1]
  · have e1 : (x.f1 == p) = false := by simp [h1]
    by_cases h0 : x.f0 = p
    · have e0 : (x.f0 == p) = true := by simp [h0]
      rw [e0, e1]
      simp [h1, h0]
    · have e0 : (x.f0 == p) = false := by simp [h0]
      rw [e0, e1]
      simp [h1, h0]

set_option maxRecDepth 20000 in
theorem is_go (pl : Int) (l : List S47) (b : List Int) (hl : GoodL pl l) (h8 : pl ≤ 8) (h16 : l.length ≤ 16) (hb : b.length = l.length) : ∀ (d i : Nat) (s : List Int), i + d = l.length → s.length = 8 →
    (∀ p : Nat, p < 8 → - ((i : Int) * 1073741824) ≤ rd s p ∧ rd s p ≤ (i : Int) * 1073741824) →
    gasworksref04_Is.l0 (d + 10) b s i pl l = some (inGb (l.drop i) (b.drop i) && sumsZero s (l.drop i) (b.drop i)) := by
  intro d
  induction d with
  | zero =>
    intro i s h hs hbd
    have e1 : l.drop i = [] := List.drop_of_length_le (by omega)
    have e2 : b.drop i = [] := List.drop_of_length_le (by omega)
    rw [gasworksref04_Is.l0, if_neg (by omega), e1, e2]
    have := is1_go s hs 8 0 (by omega)
    rw [show ((0 : Nat) : Int) = 0 from rfl] at this
    rw [this]
    unfold sumsZero
    simp [inGb, net]
  | succ d ih =>
    intro i s h hs hbd
    have hi : i < l.length := by omega
    have hib : i < b.length := by omega
    have hg := hl _ (List.getElem_mem hi)
    unfold goodF at hg
    rw [List.drop_eq_getElem_cons hi, List.drop_eq_getElem_cons hib, show d + 1 + 10 = (d + 10) + 1 from by omega, gasworksref04_Is.l0, if_pos (by omega), if_pos (by omega), if_pos (by omega)]
    rw [rd_T45_eq _ _ hi, rd_at _ _ hib]
    generalize l[i] = x at hg ⊢
    generalize b[i] = n
    have hin : gasworksref04_in.f n x.f2.f0 x.f2.f1 = some (decide (x.f2.f0 ≤ n) && decide (n ≤ x.f2.f1)) := by
      unfold gasworksref04_in.f
      split
      · rename_i hh; rw [decide_eq_true hh]; rfl
      · rename_i hh; rw [decide_eq_false hh]; rfl
    rw [hin, Option.bind_some]
    simp only [inGb]
    cases hc : (decide (x.f2.f0 ≤ n) && decide (n ≤ x.f2.f1)) with
    | false => rw [if_neg (by decide)]; rfl
    | true =>
      simp only [Bool.and_eq_true, decide_eq_true_eq] at hc
      obtain ⟨f, hf⟩ := Int.eq_ofNat_of_zero_le hg.1
      obtain ⟨t, ht⟩ := Int.eq_ofNat_of_zero_le hg.2.2.1
      have hft : f ≠ t := by omega
      have hi16 : (i : Int) * 1073741824 ≤ 16106127360 := by omega
      have hf8 := hbd f (by omega)
      have ht8 := hbd t (by omega)
      rw [if_pos rfl, hf, ht, if_pos (by omega), if_pos (by omega), Option.bind_some, if_pos (by omega), if_pos (by first | omega | (rw [List.length_set]; omega)), Int.toNat_natCast, Int.toNat_natCast]
      rw [IntWalk.wrap64_in (rd s (f : Int) - n) (by omega), rd_set_ne _ _ _ _ hft, IntWalk.wrap64_in (rd s (t : Int) + n) (by omega), IntWalk.wrap64_in ((i : Int) + 1) (by omega), show ((i : Int) + 1) = ((i + 1 : Nat) : Int) from by omega]
      have hs' : ∀ p : Nat, p < 8 → rd ((s.set f (rd s (f : Int) - n)).set t (rd s (t : Int) + n)) p = rd s p + nx (at1 p) x n := by
        intro p hp
        rw [nx_at x p n (by omega)]
        by_cases e1 : t = p
        · subst e1
          rw [rd_set_eq _ _ _ (by rw [List.length_set]; omega), if_pos ht]
        · rw [rd_set_ne _ _ _ _ e1, if_neg (by omega)]
          by_cases e0 : f = p
          · subst e0
            rw [rd_set_eq _ _ _ (by omega), if_pos hf]
            omega
          · rw [rd_set_ne _ _ _ _ e0, if_neg (by omega)]
            omega
      rw [ih (i + 1) _ (by omega) (by simp [hs]) (fun p hp => by
        have := hbd p hp
        rw [hs' p hp, nx_at x p n (by omega)]
        split
        · omega
        · split <;> omega)]
      congr 1
      rw [Bool.true_and]
      congr 1
      unfold sumsZero
      rw [decide_eq_decide]
      constructor
      · intro hh p hp
        have := hh p hp
        rw [hs' p hp] at this
        simp only [net]
        omega
      · intro hh p hp
        have := hh p hp
        simp only [net] at this
        rw [hs' p hp]
        omega

theorem rd_zeros (p : Nat) : rd (List.replicate 8 (0 : Int)) p = 0 := by
  simp only [rd, Int.toNat_natCast, List.getD_eq_getElem?_getD, List.getElem?_replicate]
  split <;> rfl

theorem is_eq (pl : Int) (l : List S47) (b : List Int) (hp : isPlantB pl l = true) : gasworksref04_Is.f (l.length + 10) pl l b = some (isB l b) := by
  obtain ⟨_, h8, h16, hl⟩ := plant_of pl l hp
  unfold gasworksref04_Is.f
  by_cases hb : b.length = l.length
  · rw [if_pos (by omega), if_pos (by decide)]
    have := is_go pl l b hl h8 h16 hb l.length 0 (List.replicate 8 0) (by omega) (by simp) (fun p hp => by rw [rd_zeros]; omega)
    rw [show ((0 : Nat) : Int) = 0 from rfl] at this
    rw [this, List.drop_zero, List.drop_zero]
    unfold isB sumsZero
    simp only [rd_zeros, Int.zero_add]
  · rw [if_neg (by omega)]
    congr 1
    symm
    unfold isB
    rw [Bool.and_eq_false_iff]
    left
    cases h : inGb l b with
    | false => rfl
    | true => exact absurd (inG_length l b ((inGb_iff l b).1 h)) hb

/-! ### Single places give all sets -/
theorem nx_val (X : Int → Bool) (x : S47) (n : Int) (a b : Bool) (ha : X x.f0 = a) (hb : X x.f1 = b) : nx X x n = if a = b then 0 else if b = true then n else - n := by
  subst ha
  subst hb
  rfl
theorem nx_or (X : Int → Bool) (q : Int) (x : S47) (n : Int) (hq : X q = false) : nx (fun p => X p || p == q) x n = nx X x n + nx (at1 q) x n := by
  rcases Bool.eq_false_or_eq_true (X x.f0) with a | a <;> rcases Bool.eq_false_or_eq_true (X x.f1) with b | b <;> rcases Bool.eq_false_or_eq_true (x.f0 == q) with e0 | e0 <;> rcases Bool.eq_false_or_eq_true (x.f1 == q) with e1 | e1 <;>
    (rw [nx_val (fun p => X p || p == q) x n _ _ (show (X x.f0 || x.f0 == q) = _ by rw [a, e0]) (show (X x.f1 || x.f1 == q) = _ by rw [b, e1]), nx_val X x n _ _ a b, nx_val (at1 q) x n _ _ (show (x.f0 == q) = _ from e0) (show (x.f1 == q) = _ from e1)]) <;>
    first
    | (simp; done)
    | (simp; omega)
    | (exfalso
       have h0 : x.f0 = q := by simpa using e0
       rw [h0, hq] at a
       exact absurd a (by decide))
    | (exfalso
       have h1 : x.f1 = q := by simpa using e1
       rw [h1, hq] at b
       exact absurd b (by decide))
theorem net_or (X : Int → Bool) (q : Int) (hq : X q = false) : ∀ (l : List S47) (t : List Int), net (fun p => X p || p == q) l t = net X l t + net (at1 q) l t
  | [], _ => by simp [net]
  | _ :: _, [] => by simp [net]
  | x :: r, n :: s => by
    simp only [net]
    rw [net_or X q hq r s, nx_or X q x n hq]
    omega
theorem net_congr (X Y : Int → Bool) (pl : Int) (h : ∀ p : Int, 0 ≤ p → p < pl → X p = Y p) : ∀ (l : List S47) (t : List Int), GoodL pl l → net X l t = net Y l t
  | [], _, _ => by simp [net]
  | _ :: _, [], _ => by simp [net]
  | x :: r, n :: s, hl => by
    simp only [net]
    rw [net_congr X Y pl h r s (fun y hy => hl y (by simp [hy]))]
    have hx := hl x (by simp)
    unfold goodF at hx
    unfold nx
    rw [h x.f0 (by omega) (by omega), h x.f1 (by omega) (by omega)]
theorem net_below (X : Int → Bool) (l : List S47) (t : List Int) (h : ∀ p : Nat, p < 8 → net (at1 p) l t = 0) : ∀ m : Nat, m ≤ 8 → net (fun p => X p && (decide (0 ≤ p) && decide (p < m))) l t = 0
  | 0, _ => by
    have hz : ∀ (l : List S47) (t : List Int), net (fun p => X p && (decide (0 ≤ p) && decide (p < ((0 : Nat) : Int)))) l t = 0 := by
      intro l
      induction l with
      | nil => intro t; simp [net]
      | cons x r ih =>
        intro t
        cases t with
        | nil => simp [net]
        | cons n s =>
          simp only [net]
          rw [ih s]
          have e : ∀ p : Int, (X p && (decide (0 ≤ p) && decide (p < ((0 : Nat) : Int)))) = false := by
            intro p
            have : ¬ (0 ≤ p ∧ p < ((0 : Nat) : Int)) := by omega
            simp only [← Bool.decide_and, decide_eq_false this, Bool.and_false]
          have e2 : nx (fun p => X p && (decide (0 ≤ p) && decide (p < ((0 : Nat) : Int)))) x n = 0 := by
            rw [nx_val _ x n false false (e _) (e _)]
            rfl
          rw [e2]
          rfl
    exact hz l t
  | m + 1, hm => by
    have ih := net_below X l t h m (by omega)
    have hstep : net (fun p => X p && (decide (0 ≤ p) && decide (p < ((m + 1 : Nat) : Int)))) l t = net (fun p => X p && (decide (0 ≤ p) && decide (p < (m : Int)))) l t + (if X m = true then net (at1 m) l t else 0) := by
      cases hx : X m with
      | true =>
        rw [if_pos rfl, ← net_or (fun p => X p && (decide (0 ≤ p) && decide (p < (m : Int)))) m (by simp)]
        congr 1
        funext p
        by_cases e : p = m
        · subst e
          rw [hx, decide_eq_true (by omega : (0 : Int) ≤ (m : Int)), decide_eq_true (by omega : (m : Int) < ((m + 1 : Nat) : Int))]
          simp
        · have : (decide (p < ((m + 1 : Nat) : Int))) = decide (p < (m : Int)) := by rw [decide_eq_decide]; omega
          rw [this]
          simp [e]
      | false =>
        rw [if_neg (by decide), Int.add_zero]
        congr 1
        funext p
        by_cases e : p = m
        · subst e
          simp [hx]
        · have : (decide (p < ((m + 1 : Nat) : Int))) = decide (p < (m : Int)) := by rw [decide_eq_decide]; omega
          rw [this]
    rw [hstep, ih]
    split
    · rw [h m (by omega)]; rfl
    · rfl

theorem isB_iff (pl : Int) (l : List S47) (t : List Int) (h8 : pl ≤ 8) (hl : GoodL pl l) : isB l t = true ↔ Tr l t := by
  unfold isB
  rw [Bool.and_eq_true, inGb_iff, decide_eq_true_eq]
  constructor
  · rintro ⟨h1, h2⟩
    refine ⟨h1, fun X => ?_⟩
    rw [← net_congr (fun p => X p && (decide (0 ≤ p) && decide (p < ((8 : Nat) : Int)))) X pl (fun p p0 p1 => ?_) l t hl]
    · exact net_below X l t h2 8 (Nat.le_refl _)
    · rw [decide_eq_true p0, decide_eq_true (by omega : p < ((8 : Nat) : Int))]
      simp
  · rintro ⟨h1, h2⟩
    exact ⟨h1, fun p _ => h2 _⟩
end Go.Proofs.Ytalgbihpidpblaa.Print
