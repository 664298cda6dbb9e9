/- The document's Why and Wrong, as plain functions: they answer as the program's. -/
import Derived.Test.YtalgbihpidpblaaM5
import Derived.Test.YtalgbihpidpblaaP8
import Derived.Test.YtalgbihpidpblaaP9
namespace Go.Proofs.Ytalgbihpidpblaa.Print
open Go.RowKit Go.Shelf Go.Proofs.YtalgbihpidpblaaW.PrintWords Go.Proofs.YtalgbihpidpblaaW.PrintLast Go.Proofs.YtalgbihpidpblaaW.PrintMore
set_option linter.unusedVariables false
set_option linter.unusedSimpArgs false

set_option maxRecDepth 100000 in
theorem has_table : ((List.range 256).all fun s => (List.range 8).all fun p => gasworksref04_has.f 10 (s : Int) (p : Int) == some (hasB (s : Int) (p : Int))) = true := by kernel_rfl
theorem has_ev (s p : Int) (h0 : 0 ≤ s) (h1 : s < 256) (h2 : 0 ≤ p) (h3 : p < 8) : Ev (fun k => gasworksref04_has.f k s p) (hasB s p) := by
  obtain ⟨s, rfl⟩ := Int.eq_ofNat_of_zero_le h0
  obtain ⟨p, rfl⟩ := Int.eq_ofNat_of_zero_le h2
  have h := has_table
  rw [List.all_eq_true] at h
  have h4 := h s (List.mem_range.2 (by omega))
  rw [List.all_eq_true] at h4
  have h5 := h4 p (List.mem_range.2 (by omega))
  exact Ev.of (fun _ => gasworksref04_has.mono _ _ _) (k := 10) (by simpa using h5)
set_option maxRecDepth 100000 in
theorem list_table : ((List.range 256).all fun s => gasworksref04_list.f 30 (s : Int) == some (listS (s : Int))) = true := by kernel_rfl
theorem list_ev (s : Int) (h0 : 0 ≤ s) (h1 : s < 256) : Ev (fun k => gasworksref04_list.f k s) (listS s) := by
  obtain ⟨s, rfl⟩ := Int.eq_ofNat_of_zero_le h0
  have h := list_table
  rw [List.all_eq_true] at h
  have h4 := h s (List.mem_range.2 (by omega))
  exact Ev.of (fun _ => gasworksref04_list.mono _ _) (k := 30) (by simpa using h4)
theorem sets2 (l : List S47) : gasworksref04_sets.f 10 2 l = some 4 := by kernel_rfl
theorem sets3 (l : List S47) : gasworksref04_sets.f 10 3 l = some 8 := by kernel_rfl
theorem sets4 (l : List S47) : gasworksref04_sets.f 10 4 l = some 16 := by kernel_rfl
theorem sets5 (l : List S47) : gasworksref04_sets.f 10 5 l = some 32 := by kernel_rfl
theorem sets6 (l : List S47) : gasworksref04_sets.f 10 6 l = some 64 := by kernel_rfl
theorem sets7 (l : List S47) : gasworksref04_sets.f 10 7 l = some 128 := by kernel_rfl
theorem sets8 (l : List S47) : gasworksref04_sets.f 10 8 l = some 256 := by kernel_rfl
theorem sets_ev (pl : Int) (l : List S47) (h2 : 2 ≤ pl) (h8 : pl ≤ 8) : Ev (fun k => gasworksref04_sets.f k pl l) ((2 ^ pl.toNat : Nat) : Int) := by
  refine Ev.of (fun _ => gasworksref04_sets.mono _ _ _) (k := 10) ?_
  have : pl = 2 ∨ pl = 3 ∨ pl = 4 ∨ pl = 5 ∨ pl = 6 ∨ pl = 7 ∨ pl = 8 := by omega
  rcases this with rfl | rfl | rfl | rfl | rfl | rfl | rfl
  · exact sets2 l
  · exact sets3 l
  · exact sets4 l
  · exact sets5 l
  · exact sets6 l
  · exact sets7 l
  · exact sets8 l

def outF (s : Int) (x : S47) : Bool := hasB s x.f0 && !hasB s x.f1
def intoF (s : Int) (x : S47) : Bool := !hasB s x.f0 && hasB s x.f1
theorem into_ev (pl s : Int) (x : S47) (a b : Int) (hx : goodF pl x) (h8 : pl ≤ 8) (h0 : 0 ≤ s) (h1 : s < 256) : Ev (fun k => gasworksref04_Into.f k x.f0 x.f1 a b s) (intoF s x) := by
  unfold goodF at hx
  unfold gasworksref04_Into.f intoF
  refine Ev.bind (has_ev s x.f0 h0 h1 (by omega) (by omega)) ?_
  cases hasB s x.f0 with
  | true => exact Ev.congr (fun k => if_pos rfl) (Ev.now _)
  | false => exact Ev.congr (fun k => if_neg (by decide)) (Ev.bind (has_ev s x.f1 h0 h1 (by omega) (by omega)) (Ev.now _))
theorem out_ev (pl s : Int) (x : S47) (a b : Int) (hx : goodF pl x) (h8 : pl ≤ 8) (h0 : 0 ≤ s) (h1 : s < 256) : Ev (fun k => gasworksref04_Out.f k x.f0 x.f1 a b s) (outF s x) := by
  unfold goodF at hx
  unfold gasworksref04_Out.f outF
  refine Ev.bind (has_ev s x.f0 h0 h1 (by omega) (by omega)) ?_
  cases hasB s x.f0 with
  | true => exact Ev.congr (fun k => if_pos rfl) (Ev.bind (has_ev s x.f1 h0 h1 (by omega) (by omega)) (Ev.now _))
  | false => exact Ev.congr (fun k => if_neg (by decide)) (Ev.now _)

def eLo (s but : Int) (i : Int) (x : S47) : Int := (if outF s x = true then x.f2.f0 else 0) - (if (intoF s x && (i != but)) = true then x.f2.f1 else 0)
def eHi (s but : Int) (i : Int) (x : S47) : Int := (if outF s x = true then x.f2.f1 else 0) - (if (intoF s x && (i != but)) = true then x.f2.f0 else 0)

theorem ends_wraps (i : Nat) (a b u v : Int) (hi : i ≤ 16) (ha : -(1073741824 * (i : Int)) ≤ a ∧ a ≤ 1073741824 * (i : Int)) (hb : -(1073741824 * (i : Int)) ≤ b ∧ b ≤ 1073741824 * (i : Int)) (hu : 0 ≤ u ∧ u ≤ 1073741824) (hv : 0 ≤ v ∧ v ≤ 1073741824) :
    wrap64 ((i : Int) + 1) = ((i + 1 : Nat) : Int) ∧ wrap64 (a + u) = a + u ∧ wrap64 (b + v) = b + v ∧ wrap64 (a - v) = a - v ∧ wrap64 (b - u) = b - u ∧ wrap64 (a + u - v) = a + u - v ∧ wrap64 (b + v - u) = b + v - u :=
  ⟨(w64 (by omega) (by omega)).trans (by omega), w64 (by omega) (by omega), w64 (by omega) (by omega), w64 (by omega) (by omega), w64 (by omega) (by omega), w64 (by omega) (by omega), w64 (by omega) (by omega)⟩
theorem ends_step (pl s but : Int) (l : List S47) (i : Nat) (a b : Int) (hi : i < l.length) (h16 : l.length ≤ 16) (h8 : pl ≤ 8) (hx : goodF pl (rd_T47 l i)) (h0 : 0 ≤ s) (h1 : s < 256)
    (ha : -(1073741824 * (i : Int)) ≤ a ∧ a ≤ 1073741824 * (i : Int)) (hb : -(1073741824 * (i : Int)) ≤ b ∧ b ≤ 1073741824 * (i : Int)) (r : Int × Int)
    (h : Ev (fun k => gasworksref04_Ends.l0 k s but (i + 1 : Nat) pl l (a + eLo s but i (rd_T47 l i)) (b + eHi s but i (rd_T47 l i))) r) : Ev (fun k => gasworksref04_Ends.l0 k s but i pl l a b) r := by
  have hO := out_ev pl s (rd_T47 l i) (rd_T47 l i).f2.f0 (rd_T47 l i).f2.f1 hx h8 h0 h1
  have hI := into_ev pl s (rd_T47 l i) (rd_T47 l i).f2.f0 (rd_T47 l i).f2.f1 hx h8 h0 h1
  have c0 : (0 : Int) ≤ (i : Int) := Int.natCast_nonneg i
  have c1 : (i : Int) < (l.length : Int) := Int.ofNat_lt.2 hi
  refine Ev.step (f := fun k => (gasworksref04_Out.f k (rd_T47 l i).f0 (rd_T47 l i).f1 (rd_T47 l i).f2.f0 (rd_T47 l i).f2.f1 s).bind fun t => if t = true then gasworksref04_Ends.j1 k s but i pl l (wrap64 (a + (rd_T47 l i).f2.f0)) (wrap64 (b + (rd_T47 l i).f2.f1)) (rd_T47 l i).f0 (rd_T47 l i).f1 (rd_T47 l i).f2.f0 (rd_T47 l i).f2.f1 else gasworksref04_Ends.j1 k s but i pl l a b (rd_T47 l i).f0 (rd_T47 l i).f1 (rd_T47 l i).f2.f0 (rd_T47 l i).f2.f1) (fun k => ?_) ?_
  · rw [gasworksref04_Ends.l0, if_pos c1, if_pos c0]
  generalize rd_T47 l i = x at *
  unfold goodF at hx
  obtain ⟨ew, w1, w2, w3, w4, t0, t1⟩ := ends_wraps i a b x.f2.f0 x.f2.f1 (by omega) ha hb ⟨by omega, by omega⟩ ⟨by omega, by omega⟩
  refine Ev.bind hO ?_
  have go : ∀ a' b' : Int, a' + eLo s but i x = a' + eLo s but i x → wrap64 (a' - x.f2.f1) = a' - x.f2.f1 → wrap64 (b' - x.f2.f0) = b' - x.f2.f0 →
      Ev (fun k => gasworksref04_Ends.l0 k s but (i + 1 : Nat) pl l (a' - (if (intoF s x && ((i : Int) != but)) = true then x.f2.f1 else 0)) (b' - (if (intoF s x && ((i : Int) != but)) = true then x.f2.f0 else 0))) r →
      Ev (fun k => gasworksref04_Ends.j1 k s but i pl l a' b' x.f0 x.f1 x.f2.f0 x.f2.f1) r := by
    intro a' b' _ q1 q2 hr
    have j2 : ∀ t : Bool, Ev (fun k => gasworksref04_Ends.l0 k s but (i + 1 : Nat) pl l (a' - (if t = true then x.f2.f1 else 0)) (b' - (if t = true then x.f2.f0 else 0))) r → Ev (fun k => gasworksref04_Ends.j2 k s but i t pl l a' b' x.f0 x.f1 x.f2.f0 x.f2.f1) r := by
      intro t ht
      refine Ev.step (fun k => ?_) ht
      rw [gasworksref04_Ends.j2, q1, q2, ew]
      cases t with
      | true => rw [if_pos rfl, if_pos rfl, if_pos rfl]
      | false => rw [if_neg (by decide), if_neg (by decide), if_neg (by decide), Int.sub_zero, Int.sub_zero]
    refine Ev.step (f := fun k => (gasworksref04_Into.f k x.f0 x.f1 x.f2.f0 x.f2.f1 s).bind fun t => if t = true then gasworksref04_Ends.j2 k s but i ((i : Int) != but) pl l a' b' x.f0 x.f1 x.f2.f0 x.f2.f1 else gasworksref04_Ends.j2 k s but i false pl l a' b' x.f0 x.f1 x.f2.f0 x.f2.f1) (fun k => ?_) (Ev.bind hI ?_)
    · rw [gasworksref04_Ends.j1]
    · cases hq : intoF s x with
      | true => exact Ev.congr (fun k => if_pos rfl) (j2 _ (by rw [hq] at hr; simpa using hr))
      | false => exact Ev.congr (fun k => if_neg (by decide)) (j2 _ (by rw [hq] at hr; simpa using hr))
  cases ho : outF s x with
  | true =>
    refine Ev.congr (fun k => if_pos rfl) ?_
    rw [w1, w2]
    refine go _ _ rfl t0 t1 ?_
    unfold eLo eHi at h
    rw [ho, if_pos rfl, if_pos rfl] at h
    have e1 : ∀ u v z : Int, u + (v - z) = u + v - z := fun u v z => by omega
    rwa [e1, e1] at h
  | false =>
    refine Ev.congr (fun k => if_neg (by decide)) (go _ _ rfl w3 w4 ?_)
    unfold eLo eHi at h
    rw [ho, if_neg Bool.false_ne_true, if_neg Bool.false_ne_true] at h
    have e1 : ∀ u z : Int, u + (0 - z) = u - z := fun u z => by omega
    rwa [e1, e1] at h

theorem e_bound (pl s but i : Int) (x : S47) (hx : goodF pl x) : (-1073741824 ≤ eLo s but i x ∧ eLo s but i x ≤ 1073741824) ∧ (-1073741824 ≤ eHi s but i x ∧ eHi s but i x ≤ 1073741824) := by
  unfold goodF at hx
  unfold eLo eHi
  split <;> split <;> omega

theorem ends_go (pl s but : Int) (l : List S47) (hp : isPlantB pl l = true) (h0 : 0 ≤ s) (h1 : s < 256) : ∀ (d i : Nat) (a b : Int), i + d = l.length →
    -(1073741824 * (i : Int)) ≤ a ∧ a ≤ 1073741824 * (i : Int) → -(1073741824 * (i : Int)) ≤ b ∧ b ≤ 1073741824 * (i : Int) →
    Ev (fun k => gasworksref04_Ends.l0 k s but i pl l a b) (a + sideSum (eLo s but) i (l.drop i), b + sideSum (eHi s but) i (l.drop i))
  | 0, i, a, b, h, _, _ => by
    rw [List.drop_of_length_le (by omega)]
    refine Ev.step (f := fun _ => some (a, b)) (fun k => ?_) ?_
    · rw [gasworksref04_Ends.l0, if_neg (by omega)]
    · simp only [sideSum, Int.add_zero]
      exact Ev.now _
  | d + 1, i, a, b, h, ha, hb => by
    have h16 := (plant_of pl l hp).2.2.1
    have hgx : goodF pl (rd_T47 l i) := rd_good pl l (plant_of pl l hp).2.2.2 _ (by omega) (by omega)
    have e : l.drop i = rd_T47 l i :: l.drop (i + 1) := by rw [List.drop_eq_getElem_cons (by omega), rd_T45_eq _ _ (by omega)]
    have hbd := e_bound pl s but i _ hgx
    refine ends_step pl s but l i a b (by omega) h16 (plant_of pl l hp).2.1 hgx h0 h1 ha hb _ ?_
    have := ends_go pl s but l hp h0 h1 d (i + 1) (a + eLo s but i (rd_T47 l i)) (b + eHi s but i (rd_T47 l i)) (by omega) (by omega) (by omega)
    rw [e]
    simp only [sideSum]
    have e2 : ((i + 1 : Nat) : Int) = (i : Int) + 1 := by omega
    rw [e2] at this ⊢
    rw [Int.add_assoc, Int.add_assoc] at this
    exact this
def endsS (s but : Int) (l : List S47) : Int × Int := (sideSum (eLo s but) 0 l, sideSum (eHi s but) 0 l)
theorem ends_ev (pl s but : Int) (l : List S47) (hp : isPlantB pl l = true) (h0 : 0 ≤ s) (h1 : s < 256) : Ev (fun k => gasworksref04_Ends.f k pl l s but) (endsS s but l) := by
  have := ends_go pl s but l hp h0 h1 l.length 0 0 0 (by omega) (by omega) (by omega)
  simpa [gasworksref04_Ends.f, endsS] using this

/-! ### The ends and what a set says -/
theorem side_same (c d : Int → S47 → Int) (l : List S47) (pl : Int) : ∀ i0 : Int, (∀ j : Nat, j < l.length → c (i0 + j) (rd_T47 l j) = d (i0 + j) (rd_T47 l j)) → sideSum c i0 l = sideSum d i0 l := by
  induction l with
  | nil => intro i0 _; rfl
  | cons x r ih =>
    intro i0 h
    simp only [sideSum]
    have h0 := h 0 (by simp)
    have e0 : rd_T47 (x :: r) ((0 : Nat) : Int) = x := by simp [rd_T47]
    rw [e0] at h0
    have e1 : i0 + ((0 : Nat) : Int) = i0 := by omega
    rw [e1] at h0
    rw [h0, ih (i0 + 1) (fun j hj => ?_)]
    have := h (j + 1) (by simp; omega)
    have e2 : rd_T47 (x :: r) ((j + 1 : Nat) : Int) = rd_T47 r j := by simp [rd_T47]
    rw [e2] at this
    have e3 : i0 + ((j + 1 : Nat) : Int) = i0 + 1 + (j : Int) := by omega
    rwa [e3] at this

theorem ends_says (l : List S47) (k : Nat) (s : Int) (hk : k < l.length) (h : intoF s (rd_T47 l k) = true) : (endsS s k l).1 = says false l k s ∧ (endsS s k l).2 = says true l k s := by
  unfold intoF at h
  rw [Bool.and_eq_true, Bool.not_eq_true'] at h
  have key : ∀ j : Nat, j < l.length → (outF s (rd_T47 l j) = true → (0 : Int) + (j : Int) ≠ (k : Int)) := by
    intro j hj ho e
    have : j = k := by omega
    subst this
    unfold outF at ho
    rw [h.1] at ho
    cases ho
  unfold endsS says total
  constructor
  · rw [if_neg (by decide), ← side_sub]
    refine side_same _ _ l 0 0 (fun j hj => ?_)
    have hk' := key j hj
    unfold eLo contrib
    generalize rd_T47 l j = x at hk' ⊢
    by_cases e : (0 : Int) + (j : Int) = (k : Int)
    · have ho : outF s x = false := by
        cases h : outF s x with
        | false => rfl
        | true => exact absurd e (hk' h)
      have hb : ((0 : Int) + (j : Int) != (k : Int)) = false := by rw [e]; simp
      have e' : (j : Int) = (k : Int) := by omega
      simp [ho, e']
    · have hb : ((0 : Int) + (j : Int) != (k : Int)) = true := bne_iff_ne.2 e
      rw [hb, Bool.and_true]
      unfold outF intoF
      have e' : ¬ (j : Int) = (k : Int) := by omega
      cases hasB s x.f0 <;> cases hasB s x.f1 <;> simp [e']
  · rw [if_pos rfl, ← side_sub]
    refine side_same _ _ l 0 0 (fun j hj => ?_)
    have hk' := key j hj
    unfold eHi contrib
    generalize rd_T47 l j = x at hk' ⊢
    by_cases e : (0 : Int) + (j : Int) = (k : Int)
    · have ho : outF s x = false := by
        cases h : outF s x with
        | false => rfl
        | true => exact absurd e (hk' h)
      have hb : ((0 : Int) + (j : Int) != (k : Int)) = false := by rw [e]; simp
      have e' : (j : Int) = (k : Int) := by omega
      simp [ho, e']
    · have hb : ((0 : Int) + (j : Int) != (k : Int)) = true := bne_iff_ne.2 e
      rw [hb, Bool.and_true]
      unfold outF intoF
      have e' : ¬ (j : Int) = (k : Int) := by omega
      cases hasB s x.f0 <;> cases hasB s x.f1 <;> simp [e']

theorem ends_wrong (l : List S47) (s : Int) : decide ((endsS s (-1) l).2 < 0) = wrongB l s := by
  have e : (endsS s (-1) l).2 = total s (-1) true true l - total s (-1) false false l := by
    unfold endsS total
    rw [← side_sub]
    refine side_same _ _ l 0 0 (fun j hj => ?_)
    unfold eHi contrib
    generalize rd_T47 l j = x at *
    have hj' : ¬ (0 : Int) + (j : Int) = -1 := by omega
    unfold outF intoF
    cases hasB s x.f0 <;> cases hasB s x.f1 <;> simp [hj']
  unfold wrongB
  rw [e]
  rcases Int.lt_or_le (total s (-1) true true l) (total s (-1) false false l) with h | h
  · rw [decide_eq_true (by omega), decide_eq_true (by omega)]
  · rw [decide_eq_false (by omega), decide_eq_false (by omega)]

/-! ### The first set that proves an end -/
def proves (m : Bool) (l : List S47) (k : Int) (n : Int) (s : Int) : Bool := (hasB s (rd_T47 l k).f1 && !hasB s (rd_T47 l k).f0) && (says m l k s == n)
def better (m : Bool) (a b : Int) : Prop := if m then a < b else a > b
theorem fold_first (m : Bool) (l : List S47) (k : Int) (S : List Int) : ∀ st : Int × Int × Bool,
    (S.foldl (step m l k) st = st) ∨ (better m (S.foldl (step m l k) st).1 st.1 ∧ (S.foldl (step m l k) st).2.2 = true ∧ S.find? (proves m l k (S.foldl (step m l k) st).1) = some (S.foldl (step m l k) st).2.1) := by
  induction S with
  | nil => intro st; exact .inl rfl
  | cons s r ih =>
    intro st
    rw [List.foldl_cons]
    by_cases hc : hasB s (rd_T47 l k).f1 = true ∧ hasB s (rd_T47 l k).f0 = false ∧ (if m then says m l k s < st.1 else says m l k s > st.1)
    · have hst : step m l k st s = (says m l k s, s, true) := by rw [step, if_pos hc]
      rw [hst]
      rcases ih (says m l k s, s, true) with h | ⟨h1, h2, h3⟩
      · rw [h]
        refine .inr ⟨hc.2.2, rfl, ?_⟩
        rw [List.find?_cons_of_pos]
        unfold proves
        rw [hc.1, hc.2.1]
        simp
      · refine .inr ⟨?_, h2, ?_⟩
        · have h4 := hc.2.2
          unfold better at h1 ⊢
          cases m
          · simp at h1 h4 ⊢; omega
          · simp at h1 h4 ⊢; omega
        · rw [List.find?_cons_of_neg, h3]
          intro hp
          unfold proves at hp
          rw [Bool.and_eq_true] at hp
          have := hp.2
          rw [beq_iff_eq] at this
          unfold better at h1
          cases m
          · simp at h1; omega
          · simp at h1; omega
    · have hst : step m l k st s = st := by rw [step, if_neg hc]
      rw [hst]
      rcases ih st with h | ⟨h1, h2, h3⟩
      · exact .inl h
      · refine .inr ⟨h1, h2, ?_⟩
        rw [List.find?_cons_of_neg, h3]
        intro hp
        unfold proves at hp
        rw [Bool.and_eq_true, Bool.and_eq_true, Bool.not_eq_true'] at hp
        have e := hp.2
        rw [beq_iff_eq] at e
        refine hc ⟨hp.1.1, hp.1.2, ?_⟩
        unfold better at h1
        rw [e]
        exact h1
theorem bound_first (m : Bool) (pl : Int) (l : List S47) (k : Int) :
    ((boundS m pl l k).2.2 = false ∧ (boundS m pl l k).1 = (if m then (rd_T47 l k).f2.f1 else (rd_T47 l k).f2.f0)) ∨
    ((boundS m pl l k).2.2 = true ∧ (boundS m pl l k).1 ≠ (if m then (rd_T47 l k).f2.f1 else (rd_T47 l k).f2.f0) ∧ (setsL pl).find? (proves m l k (boundS m pl l k).1) = some (boundS m pl l k).2.1) := by
  have h := fold_first m l k (setsL pl) (first m l k)
  unfold boundS
  rcases h with h | ⟨h1, h2, h3⟩
  · rw [h]
    exact .inl ⟨rfl, rfl⟩
  · refine .inr ⟨h2, ?_, h3⟩
    unfold better at h1
    have e : (first m l k).1 = (if m then (rd_T47 l k).f2.f1 else (rd_T47 l k).f2.f0) := rfl
    rw [e] at h1
    cases m
    · simp at h1 ⊢; omega
    · simp at h1 ⊢; omega
end Go.Proofs.Ytalgbihpidpblaa.Print
