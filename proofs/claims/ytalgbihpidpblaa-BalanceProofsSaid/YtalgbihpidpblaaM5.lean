/- The document's truths, in order: the first one, and how much each flow can be (plain facts). -/
import Derived.Test.YtalgbihpidpblaaT2
import Derived.Test.YtalgbihpidpblaaPrint3
import Derived.Test.YtalgbihpidpblaaPrint4
namespace Go.Proofs.Ytalgbihpidpblaa.Print
open Go.RowKit Go.Shelf Go.Proofs.YtalgbihpidpblaaW.PrintWords Go.Proofs.YtalgbihpidpblaaW.PrintLast Go.Proofs.YtalgbihpidpblaaW.PrintMore
set_option linter.unusedVariables false
set_option linter.unusedSimpArgs false

theorem mem_span (x : S47) (g : Int) : g ∈ spanL x ↔ x.f2.f0 ≤ g ∧ g ≤ x.f2.f1 := by
  unfold spanL spanN
  rw [List.mem_map]
  constructor
  · rintro ⟨i, hi, rfl⟩
    have := List.mem_range.1 hi
    omega
  · rintro ⟨h0, h1⟩
    exact ⟨(g - x.f2.f0).toNat, List.mem_range.2 (by omega), by omega⟩
theorem span_lt (x : S47) : (spanL x).Pairwise (· < ·) := by
  unfold spanL
  rw [List.pairwise_map]
  exact List.pairwise_lt_range.imp (fun h => by omega)

theorem mem_tru (l : List S47) : ∀ (r : List S47) (b t : List Int), t ∈ truFrom l r b ↔ ∃ s, inG r s ∧ t = b ++ s ∧ isB l t = true
  | [], b, t => by
    unfold truFrom
    constructor
    · intro h
      split at h
      · rename_i hI
        obtain rfl : t = b := by simpa using h
        exact ⟨[], trivial, by simp, hI⟩
      · cases h
    · rintro ⟨s, hs, rfl, hI⟩
      cases s with
      | nil => rw [List.append_nil] at hI ⊢; rw [if_pos hI]; simp
      | cons _ _ => exact hs.elim
  | x :: r, b, t => by
    unfold truFrom
    rw [List.mem_flatMap]
    constructor
    · rintro ⟨g, hg, h⟩
      obtain ⟨s, hs, rfl, hI⟩ := (mem_tru l r (b ++ [g]) t).1 h
      exact ⟨g :: s, ⟨(mem_span x g).1 hg, hs⟩, by simp, hI⟩
    · rintro ⟨s, hs, rfl, hI⟩
      cases s with
      | nil => exact hs.elim
      | cons g s => exact ⟨g, (mem_span x g).2 hs.1, (mem_tru l r (b ++ [g]) _).2 ⟨s, hs.2, by simp, hI⟩⟩

/-- t does not come behind u. -/
def Lx (t u : List Int) : Prop := ∀ i : Nat, (∀ j : Nat, j < i → rd u j = rd t j) → rd t i ≤ rd u i
theorem Lx.refl (t : List Int) : Lx t t := fun _ _ => Int.le_refl _
theorem rd_left (b s : List Int) (i : Nat) (h : i < b.length) : rd (b ++ s) i = rd b i := by simp [rd, List.getElem?_append_left h]
theorem rd_mid (b s : List Int) (g : Int) : rd (b ++ [g] ++ s) b.length = g := by simp [rd]
theorem lx_of (b s s' : List Int) (g g' : Int) (h : g < g') : Lx (b ++ [g] ++ s) (b ++ [g'] ++ s') := by
  intro i hi
  rcases Nat.lt_trichotomy i b.length with h1 | h1 | h1
  · rw [List.append_assoc, List.append_assoc, rd_left _ _ _ h1, rd_left _ _ _ h1]
    exact Int.le_refl _
  · subst h1
    rw [rd_mid, rd_mid]
    omega
  · have := hi b.length h1
    rw [rd_mid, rd_mid] at this
    omega

theorem tru_first (l : List S47) : ∀ (r : List S47) (b t : List Int) (q : List (List Int)), truFrom l r b = t :: q → ∀ u ∈ truFrom l r b, Lx t u
  | [], b, t, q, h, u, hu => by
    unfold truFrom at h hu
    split at h
    · rename_i hI
      rw [if_pos hI] at hu
      obtain rfl : u = b := by simpa using hu
      injection h with h _
      subst h
      exact Lx.refl _
    · cases h
  | x :: r, b, t, q, h, u, hu => by
    unfold truFrom at h hu
    have ih := fun g => tru_first l r (b ++ [g])
    have go : ∀ gs : List Int, gs.Pairwise (· < ·) → ∀ q, (gs.flatMap fun g => truFrom l r (b ++ [g])) = t :: q → u ∈ (gs.flatMap fun g => truFrom l r (b ++ [g])) → Lx t u := by
      intro gs
      induction gs with
      | nil => intro _ q h _; cases h
      | cons g gs ihg =>
        intro hp q h hu
        rw [List.pairwise_cons] at hp
        rw [List.flatMap_cons] at h hu
        cases hf : truFrom l r (b ++ [g]) with
        | nil =>
          rw [hf, List.nil_append] at h hu
          exact ihg hp.2 q h hu
        | cons t' q' =>
          rw [hf, List.cons_append] at h
          injection h with h1 _
          subst h1
          rcases List.mem_append.1 hu with hu | hu
          · exact ih g t' q' hf u hu
          · obtain ⟨g', hg', hu'⟩ := List.mem_flatMap.1 hu
            obtain ⟨s', _, rfl, _⟩ := (mem_tru l r _ u).1 hu'
            obtain ⟨s, _, rfl, _⟩ := (mem_tru l r _ t').1 (by rw [hf]; simp)
            exact lx_of b s s' g g' (hp.1 g' hg')
    exact go _ (span_lt x) q h hu

theorem lx_anti : ∀ (t u : List Int), t.length = u.length → Lx t u → Lx u t → t = u := by
  intro t u hl h1 h2
  have : ∀ i : Nat, rd t i = rd u i := by
    intro i
    induction i using Nat.strongRecOn with
    | ind i ih => exact Int.le_antisymm (h1 i (fun j hj => (ih j hj).symm)) (h2 i (fun j hj => ih j hj))
  apply List.ext_getElem hl
  intro i a b
  have := this i
  rwa [rd_at _ _ a, rd_at _ _ b] at this

theorem inG_of_isB {l : List S47} {t : List Int} (h : isB l t = true) : inG l t := by
  unfold isB at h
  rw [Bool.and_eq_true] at h
  exact (inGb_iff l t).1 h.1
theorem mem_truths (pl : Int) (l : List S47) (hp : isPlantB pl l = true) (t : List Int) : t ∈ truFrom l l [] ↔ Tr l t := by
  have h8 := (plant_of pl l hp).2.1
  have hg : GoodL pl l := (plant_of pl l hp).2.2.2
  rw [mem_tru, ← isB_iff pl l t h8 hg]
  constructor
  · rintro ⟨s, _, rfl, hI⟩; exact hI
  · intro h; exact ⟨t, inG_of_isB h, rfl, h⟩

theorem err_ok (pl : Int) (l : List S47) (hp : isPlantB pl l = true) : (errS pl l = 0 ∧ Cut l) ∨ (errS pl l = 6 ∧ ¬ Cut l) := by
  have h8 := (plant_of pl l hp).2.1
  have hg : GoodL pl l := (plant_of pl l hp).2.2.2
  unfold errS
  rw [if_pos hp]
  by_cases h : ((setsL pl).find? (wrongB l)).isSome = true
  · rw [if_pos h]
    refine .inr ⟨rfl, fun hc => ?_⟩
    obtain ⟨s, hs⟩ := Option.isSome_iff_exists.1 h
    have h1 := List.find?_some hs
    rw [none_of_cut l hc s] at h1
    cases h1
  · rw [if_neg h]
    exact .inl ⟨rfl, cut_of_none pl l h8 hg (find_none (by simpa using h))⟩

theorem tru_all (pl : Int) (l : List S47) (hp : isPlantB pl l = true) : (errS pl l = 0 ∧ Cut l ∧ ∃ q, truFrom l l [] = truthL pl l l.length :: q) ∨ (errS pl l = 6 ∧ ¬ Cut l ∧ truFrom l l [] = []) := by
  have h8 := (plant_of pl l hp).2.1
  have hg : GoodL pl l := (plant_of pl l hp).2.2.2
  rcases err_ok pl l hp with ⟨he, hc⟩ | ⟨he, hc⟩
  · refine .inl ⟨he, hc, ?_⟩
    have ht := truth_is pl l h8 hg hc
    have hm := (mem_truths pl l hp _).2 ht
    cases hT : truFrom l l [] with
    | nil => rw [hT] at hm; cases hm
    | cons t q =>
      have hf := tru_first l l [] t q hT _ hm
      have htr : Tr l t := (mem_truths pl l hp t).1 (by rw [hT]; simp)
      have e : t = truthL pl l l.length := lx_anti _ _ (by rw [inG_length _ _ htr.1, truthL_length]) hf (fun i hi => by
        by_cases hil : i < l.length
        · exact truth_first pl l h8 hg t htr i hil hi
        · have h1 : rd t i = 0 := by simp [rd, List.getElem?_eq_none (show t.length ≤ i by rw [inG_length _ _ htr.1]; omega)]
          have h2 : rd (truthL pl l l.length) i = 0 := by simp [rd, List.getElem?_eq_none (show (truthL pl l l.length).length ≤ i by rw [truthL_length]; omega)]
          rw [h1, h2]
          exact Int.le_refl _)
      exact ⟨q, by rw [e]⟩
  · refine .inr ⟨he, hc, ?_⟩
    cases hT : truFrom l l [] with
    | nil => rfl
    | cons t q => exact absurd (tr_cut l t ((mem_truths pl l hp t).1 (by rw [hT]; simp))) hc

theorem plant_good (pl : Int) (l : List S47) (h2 : 2 ≤ pl) (h8 : pl ≤ 8) (h16 : l.length ≤ 16) (hg : GoodL pl l) : isPlantB pl l = true := by
  have ha : anyBad pl l = false := by
    rw [any_bad, List.any_eq_false]
    intro x hx
    rw [(badX_iff pl x).2 (hg x hx)]
    decide
  simp only [isPlantB, Bool.and_eq_true, withinB, decide_eq_true_eq, Bool.not_eq_true']
  exact ⟨⟨⟨h2, h8⟩, h16⟩, ha⟩
theorem truth_ok (pl : Int) (l : List S47) (hp : isPlantB pl l = true) (hc : Cut l) : truthOk pl l = true := by
  have h8 := (plant_of pl l hp).2.1
  have hg : GoodL pl l := (plant_of pl l hp).2.2.2
  unfold truthOk
  rw [List.all_eq_true]
  intro i hi
  have hi := List.mem_range.1 hi
  have := (fixes_good pl l h8 hg hc i (by omega)).1
  exact plant_good pl _ (plant_of pl l hp).1 h8 (by rw [fixes_length]; exact (plant_of pl l hp).2.2.1) this

theorem truth_f (pl : Int) (l : List S47) : balance_Truth.f pl l = some (truRef pl l) := by
  unfold balance_Truth.f truRef
  by_cases hp : isPlantB pl l = true
  · rw [if_pos hp]
    rcases tru_all pl l hp with ⟨he, hc, q, hT⟩ | ⟨he, hc, hT⟩
    · rw [if_pos he, if_pos (truth_ok pl l hp hc), hT]
    · rw [he, hT]; rfl
  · rw [if_neg hp]
    have : errS pl l = 1 := by unfold errS; rw [if_neg hp]
    rw [this]; rfl

/-! ### How much each flow can be -/
theorem col_le (i : Int) (ls : List (List Int)) : ∀ st : Int × Int, (ls.foldl (colStep i) st).1 ≤ st.1 ∧ st.2 ≤ (ls.foldl (colStep i) st).2 ∧ (∀ t ∈ ls, (ls.foldl (colStep i) st).1 ≤ rd t i ∧ rd t i ≤ (ls.foldl (colStep i) st).2) ∧
    ((ls.foldl (colStep i) st).1 = st.1 ∨ ∃ t ∈ ls, (ls.foldl (colStep i) st).1 = rd t i) ∧ ((ls.foldl (colStep i) st).2 = st.2 ∨ ∃ t ∈ ls, (ls.foldl (colStep i) st).2 = rd t i) := by
  induction ls with
  | nil => intro st; exact ⟨Int.le_refl _, Int.le_refl _, (fun t h => by cases h), .inl rfl, .inl rfl⟩
  | cons u q ih =>
    intro st
    rw [List.foldl_cons]
    obtain ⟨h1, h2, h3, h4, h5⟩ := ih (colStep i st u)
    have e1 : (colStep i st u).1 = min st.1 (rd u i) := rfl
    have e2 : (colStep i st u).2 = max st.2 (rd u i) := rfl
    refine ⟨by omega, by omega, ?_, ?_, ?_⟩
    · intro t ht
      rcases List.mem_cons.1 ht with rfl | ht
      · omega
      · exact h3 t ht
    · rcases h4 with h4 | ⟨t, ht, h4⟩
      · rcases Int.le_total st.1 (rd u i) with h | h
        · exact .inl (by omega)
        · exact .inr ⟨u, by simp, by omega⟩
      · exact .inr ⟨t, by simp [ht], h4⟩
    · rcases h5 with h5 | ⟨t, ht, h5⟩
      · rcases Int.le_total st.2 (rd u i) with h | h
        · exact .inr ⟨u, by simp, by omega⟩
        · exact .inl (by omega)
      · exact .inr ⟨t, by simp [ht], h5⟩

theorem col_tight (pl : Int) (l : List S47) (hp : isPlantB pl l = true) (hc : Cut l) (t0 : List Int) (q : List (List Int)) (hT : truFrom l l [] = t0 :: q) (i : Nat) (hi : i < l.length) : colAt t0 (t0 :: q) i = tightAt pl l i := by
  have h8 := (plant_of pl l hp).2.1
  have hg : GoodL pl l := (plant_of pl l hp).2.2.2
  have hmem : ∀ t, t ∈ t0 :: q ↔ Tr l t := fun t => by rw [← hT]; exact mem_truths pl l hp t
  have hb := bounds_in pl l hg hc i (by omega) (by omega)
  obtain ⟨_, _, h3, h4, h5⟩ := col_le i (t0 :: q) (rd t0 i, rd t0 i)
  have hle : (boundS false pl l i).1 ≤ (boundS true pl l i).1 := by
    have ht0 := tr_bounds pl l t0 ((hmem t0).1 (by simp)) i hi
    omega
  have a4 : ∃ t ∈ t0 :: q, ((t0 :: q).foldl (colStep i) (rd t0 i, rd t0 i)).1 = rd t i := by
    rcases h4 with h | h
    · exact ⟨t0, by simp, h⟩
    · exact h
  have a5 : ∃ t ∈ t0 :: q, ((t0 :: q).foldl (colStep i) (rd t0 i, rd t0 i)).2 = rd t i := by
    rcases h5 with h | h
    · exact ⟨t0, by simp, h⟩
    · exact h
  unfold colAt tightAt colUp
  congr 1
  · obtain ⟨t, ht, e⟩ := a4
    have h1 := (tr_bounds pl l t ((hmem t).1 ht) i hi).1
    obtain ⟨u, hu, e2⟩ := truth_with pl l h8 hg hc i hi (boundS false pl l i).1 (Int.le_refl _) hle
    have h2 := (h3 u ((hmem u).2 hu)).1
    omega
  · obtain ⟨t, ht, e⟩ := a5
    have h1 := (tr_bounds pl l t ((hmem t).1 ht) i hi).2
    obtain ⟨u, hu, e2⟩ := truth_with pl l h8 hg hc i hi (boundS true pl l i).1 hle (Int.le_refl _)
    have h2 := (h3 u ((hmem u).2 hu)).2
    omega

theorem tight_ref (pl : Int) (l : List S47) : tightRef pl l = tightS pl l := by
  unfold tightRef tightS
  by_cases hp : isPlantB pl l = true
  · rw [if_pos hp]
    rcases tru_all pl l hp with ⟨he, hc, q, hT⟩ | ⟨he, hc, hT⟩
    · rw [he, hT, if_pos rfl]
      show ((List.range l.length).map (colAt _ _), (0 : Int)) = (tightL pl l, 0)
      congr 1
      unfold tightL
      exact List.map_congr_left (fun i hi => col_tight pl l hp hc _ _ hT i (List.mem_range.1 hi))
    · rw [he, hT]; rfl
  · rw [if_neg hp]
    have : errS pl l = 1 := by unfold errS; rw [if_neg hp]
    rw [this]; rfl
end Go.Proofs.Ytalgbihpidpblaa.Print

namespace Go.Proofs.Ytalgbihpidpblaa.Print
open Go.RowKit Go.Shelf Go.Proofs.YtalgbihpidpblaaW.PrintWords Go.Proofs.YtalgbihpidpblaaW.PrintLast Go.Proofs.YtalgbihpidpblaaW.PrintMore
set_option linter.unusedVariables false
set_option linter.unusedSimpArgs false

theorem w64 {n : Int} (h0 : -9223372036854775808 ≤ n) (h1 : n ≤ 9223372036854775807) : wrap64 n = n := by
  unfold wrap64
  omega
theorem plant_ev (pl : Int) (l : List S47) : Ev (fun k => gasworksref04_Plant.f k pl l) (isPlantB pl l) := Ev.of (fun _ => gasworksref04_Plant.mono _ _ _) (plant_eq pl l)

theorem ints_go (a b : List Int) (hl : a.length = b.length) (hm : a.length ≤ 1000000) : ∀ (d i : Nat), i + d = a.length → Ev (fun k => gasworksref04_Ints.l0 k a b i) (decide (a.drop i = b.drop i))
  | 0, i, h => by
    refine Ev.step (f := fun _ => some true) (fun k => ?_) ?_
    · simp only [gasworksref04_Ints.l0]
      rw [if_neg (by omega)]
    · rw [List.drop_of_length_le (by omega), List.drop_of_length_le (by omega)]
      exact Ev.now _
  | d + 1, i, h => by
    have e1 : a.drop i = rd a i :: a.drop (i + 1) := by rw [List.drop_eq_getElem_cons (by omega), rd_at _ _ (by omega)]
    have e2 : b.drop i = rd b i :: b.drop (i + 1) := by rw [List.drop_eq_getElem_cons (by omega), rd_at _ _ (by omega)]
    have ew : wrap64 ((i : Int) + 1) = ((i + 1 : Nat) : Int) := by rw [w64 (by omega) (by omega)]; omega
    by_cases hq : rd a i = rd b i
    · refine Ev.step (f := fun k => gasworksref04_Ints.l0 k a b (i + 1 : Nat)) (fun k => ?_) ?_
      · simp only [gasworksref04_Ints.l0]
        rw [if_pos (by omega), if_pos (by omega), if_pos (by omega), if_pos hq, ew]
      · have := ints_go a b hl hm d (i + 1) (by omega)
        rw [e1, e2]
        simpa [hq] using this
    · refine Ev.step (f := fun _ => some false) (fun k => ?_) ?_
      · simp only [gasworksref04_Ints.l0]
        rw [if_pos (by omega), if_pos (by omega), if_pos (by omega), if_neg hq]
      · rw [e1, e2]
        simp only [List.cons.injEq, hq, false_and, decide_false]
        exact Ev.now _
theorem ints_ev (a b : List Int) (hm : a.length ≤ 1000000) : Ev (fun k => gasworksref04_Ints.f k a b) (decide (a = b)) := by
  unfold gasworksref04_Ints.f
  by_cases hl : a.length = b.length
  · have := ints_go a b hl hm a.length 0 (by omega)
    refine Ev.congr (fun k => ?_) this
    rw [if_pos (by omega)]
    rfl
  · have : decide (a = b) = false := decide_eq_false (fun e => hl (by rw [e]))
    rw [this]
    refine Ev.congr (fun k => ?_) (Ev.now _)
    rw [if_neg (by omega)]

theorem spans_go (a : List S45) (hm : a.length ≤ 1000000) : ∀ (d i : Nat), i + d = a.length → Ev (fun k => gasworksref04_Spans.l0 k a a i) true
  | 0, i, h => by
    refine Ev.step (f := fun _ => some true) (fun k => ?_) (Ev.now _)
    simp only [gasworksref04_Spans.l0]
    rw [if_neg (by omega)]
  | d + 1, i, h => by
    have ew : wrap64 ((i : Int) + 1) = ((i + 1 : Nat) : Int) := by rw [w64 (by omega) (by omega)]; omega
    refine Ev.step (f := fun k => gasworksref04_Spans.l0 k a a (i + 1 : Nat)) (fun k => ?_) (spans_go a hm d (i + 1) (by omega))
    simp only [gasworksref04_Spans.l0]
    rw [if_pos (by omega), if_pos (by omega), if_pos (by omega), if_neg (by simp), ew]
theorem spans_ev (a : List S45) (hm : a.length ≤ 1000000) : Ev (fun k => gasworksref04_Spans.f k a a) true := by
  unfold gasworksref04_Spans.f
  refine Ev.congr (fun k => ?_) (spans_go a hm a.length 0 (by omega))
  rw [if_pos rfl]
  rfl

/-! ### Which plants are too large -/
theorem large_step (pl : Int) (l : List S47) (i n : Nat) (h0 : i < l.length) (hi : i ≤ 100) (h2 : n ≤ 8000) (x : S47) (hx : rd_T47 l i = x) (hg : goodF pl x) (k : Nat) :
    gasworkslaw04_large.j2 (k + 1) 8000 n i true pl l = if n * min 8001 (spanN x) > 8000 then some true else gasworkslaw04_large.l0 k 8000 ((n * min 8001 (spanN x) : Nat) : Int) (i + 1 : Nat) pl l := by
  unfold goodF at hg
  have hs : (spanN x : Int) = x.f2.f1 - x.f2.f0 + 1 := by unfold spanN; omega
  have hm : min 8001 (spanN x) ≤ 8001 := Nat.min_le_left _ _
  have hb : n * min 8001 (spanN x) ≤ 8000 * 8001 := Nat.mul_le_mul h2 hm
  have e4 : mn 8001 (spanN x : Int) = ((min 8001 (spanN x) : Nat) : Int) := by unfold mn; split <;> omega
  have e5 : wrap64 ((n : Int) * ((min 8001 (spanN x) : Nat) : Int)) = ((n * min 8001 (spanN x) : Nat) : Int) := by
    rw [← Int.natCast_mul, w64 (by omega) (by omega)]
  have ew : wrap64 ((i : Int) + 1) = ((i + 1 : Nat) : Int) := (w64 (by omega) (by omega)).trans (by omega)
  have e1 : wrap64 (8000 + 1) = 8001 := w64 (by omega) (by omega)
  have e2 : wrap64 (x.f2.f1 - x.f2.f0) = x.f2.f1 - x.f2.f0 := w64 (by omega) (by omega)
  have e3 : wrap64 (x.f2.f1 - x.f2.f0 + 1) = (spanN x : Int) := (w64 (by omega) (by omega)).trans hs.symm
  have c0 : (0 : Int) ≤ (i : Int) := Int.natCast_nonneg i
  have c1 : (i : Int) < (l.length : Int) := Int.ofNat_lt.2 h0
  rw [gasworkslaw04_large.j2]
  rw [hx, e1, e2, e3, e4, e5, ew]
  rw [if_pos rfl, if_pos c0, if_pos c1]
  by_cases hb2 : n * min 8001 (spanN x) > 8000
  · rw [if_pos hb2, if_pos (show ((n * min 8001 (spanN x) : Nat) : Int) > 8000 from Int.ofNat_lt.2 hb2)]
  · rw [if_neg hb2, if_neg (show ¬ ((n * min 8001 (spanN x) : Nat) : Int) > 8000 from fun h => hb2 (Int.ofNat_lt.1 h))]

theorem large_go (pl : Int) (l : List S47) (hp : isPlantB pl l = true) : ∀ (d i n : Nat), i + d = l.length → 1 ≤ n → n ≤ 8000 →
    ∃ b, Ev (fun k => gasworkslaw04_large.l0 k 8000 n i pl l) b ∧ (b = false → n * cnt (l.drop i) ≤ 8000)
  | 0, i, n, h, h1, h2 => by
    refine ⟨false, ?_, fun _ => ?_⟩
    · refine Ev.step (f := fun k => gasworkslaw04_large.j2 k 8000 n i false pl l) (fun k => ?_) (Ev.step (f := fun _ => some false) (fun k => ?_) (Ev.now _))
      · rw [gasworkslaw04_large.l0]
        rw [if_neg (by omega)]
      · rw [gasworkslaw04_large.j2]
        rw [if_neg (by decide)]
    · rw [List.drop_of_length_le (by omega)]
      simp [cnt]
      omega
  | d + 1, i, n, h, h1, h2 => by
    have h16 := (plant_of pl l hp).2.2.1
    have hgx : goodF pl (rd_T47 l i) := rd_good pl l (plant_of pl l hp).2.2.2 _ (by omega) (by omega)
    have e : l.drop i = rd_T47 l i :: l.drop (i + 1) := by rw [List.drop_eq_getElem_cons (by omega), rd_T45_eq _ _ (by omega)]
    have hst := large_step pl l i n (by omega) (by omega) h2 _ rfl hgx
    rw [e]
    have first : ∀ r, Ev (fun k => gasworkslaw04_large.j2 k 8000 n i true pl l) r → Ev (fun k => gasworkslaw04_large.l0 k 8000 n i pl l) r := by
      intro r hr
      refine Ev.step (f := fun k => (gasworksref04_Plant.f k pl l).bind fun t => gasworkslaw04_large.j2 k 8000 n i t pl l) (fun k => ?_) (Ev.bind (plant_ev pl l) (by rw [hp]; exact hr))
      rw [gasworkslaw04_large.l0]
      rw [if_pos (by omega)]
    unfold goodF at hgx
    have hs : (spanN (rd_T47 l i) : Int) = (rd_T47 l i).f2.f1 - (rd_T47 l i).f2.f0 + 1 := by unfold spanN; omega
    have hs1 : 1 ≤ spanN (rd_T47 l i) := by omega
    clear hs hgx
    generalize hsn : spanN (rd_T47 l i) = s at *
    by_cases hbig : n * min 8001 s > 8000
    · refine ⟨true, first _ (Ev.step (f := fun _ => some true) (fun k => ?_) (Ev.now _)), fun hf => by cases hf⟩
      rw [hst, if_pos hbig]
    · have hle : min 8001 s ≤ 8000 := by
        have := Nat.mul_le_mul_right (min 8001 s) h1
        omega
      have hme : min 8001 s = s := by omega
      rw [hme] at hst hbig
      obtain ⟨b, hb1, hb2⟩ := large_go pl l hp d (i + 1) (n * s) (by omega) (by have := Nat.mul_le_mul h1 hs1; omega) (by omega)
      refine ⟨b, first _ (Ev.step (fun k => ?_) hb1), fun hf => ?_⟩
      · rw [hst, if_neg hbig]
      · have := hb2 hf
        simp only [cnt]
        rw [hsn, ← Nat.mul_assoc]
        exact this

theorem large_not (pl : Int) (l : List S47) (hp : isPlantB pl l = false) (hl : l.length ≤ 100) : Ev (fun k => gasworkslaw04_large.l0 k 8000 1 0 pl l) false := by
  have last : Ev (fun k => gasworkslaw04_large.j2 k 8000 1 0 false pl l) false := by
    refine Ev.step (f := fun _ => some false) (fun k => ?_) (Ev.now _)
    rw [gasworkslaw04_large.j2]
    rw [if_neg (by decide)]
  by_cases h : (0 : Int) < (l.length : Int)
  · refine Ev.step (f := fun k => (gasworksref04_Plant.f k pl l).bind fun t => gasworkslaw04_large.j2 k 8000 1 0 t pl l) (fun k => ?_) (Ev.bind (plant_ev pl l) (by rw [hp]; exact last))
    rw [gasworkslaw04_large.l0]
    rw [if_pos h]
  · refine Ev.step (f := fun k => gasworkslaw04_large.j2 k 8000 1 0 false pl l) (fun k => ?_) last
    rw [gasworkslaw04_large.l0]
    rw [if_neg h]

theorem large_ev (pl : Int) (l : List S47) : ∃ b, Ev (fun k => gasworkslaw04_large.f k pl l 8 8000) b ∧ (b = false → isPlantB pl l = true → cnt l ≤ 8000) := by
  unfold gasworkslaw04_large.f
  have yes : Ev (fun k => gasworkslaw04_large.j0 k 8000 true pl l) true := by
    refine Ev.step (f := fun _ => some true) (fun k => ?_) (Ev.now _)
    rw [gasworkslaw04_large.j0]
    rw [if_pos rfl]
  have no : ∀ r, Ev (fun k => gasworkslaw04_large.l0 k 8000 1 0 pl l) r → Ev (fun k => gasworkslaw04_large.j0 k 8000 false pl l) r := by
    intro r hr
    refine Ev.step (f := fun k => gasworkslaw04_large.l0 k 8000 1 0 pl l) (fun k => ?_) hr
    rw [gasworkslaw04_large.j0]
    rw [if_neg (by decide)]
  by_cases h20 : (l.length : Int) > 20
  · have e : decide ((l.length : Int) > 20) = true := decide_eq_true h20
    refine ⟨true, Ev.congr (fun k => ?_) yes, fun h => by cases h⟩
    rw [e, if_pos (by omega), if_neg (by omega)]
  · have e : decide ((l.length : Int) > 20) = false := decide_eq_false h20
    have main : ∃ b, Ev (fun k => gasworkslaw04_large.l0 k 8000 1 0 pl l) b ∧ (b = false → isPlantB pl l = true → cnt l ≤ 8000) := by
      by_cases hp : isPlantB pl l = true
      · obtain ⟨b, hb1, hb2⟩ := large_go pl l hp l.length 0 1 (by omega) (by omega) (by omega)
        refine ⟨b, hb1, fun hf _ => ?_⟩
        have := hb2 hf
        simpa using this
      · exact ⟨false, large_not pl l (by simpa using hp) (by omega), fun _ h => absurd h hp⟩
    obtain ⟨b, hb1, hb2⟩ := main
    by_cases h8 : (l.length : Int) > 8
    · by_cases h16 : (l.length : Int) ≤ 16
      · refine ⟨true, Ev.congr (fun k => ?_) yes, fun h => by cases h⟩
        rw [if_pos h8, if_pos h16]
      · refine ⟨b, Ev.congr (fun k => ?_) (no b hb1), hb2⟩
        rw [if_pos h8, if_neg h16, e]
    · refine ⟨b, Ev.congr (fun k => ?_) (no b hb1), hb2⟩
      rw [if_neg h8, e]

theorem truRef_len (pl : Int) (l : List S47) : (truRef pl l).1.length ≤ 1000000 := by
  unfold truRef
  split
  · rename_i hp
    have h16 := (plant_of pl l hp).2.2.1
    split
    · simp
    · rename_i t q hT
      have := tru_len l l [] t (by rw [hT]; simp)
      show t.length ≤ 1000000
      omega
  · simp
theorem tightS_len (pl : Int) (l : List S47) : (tightS pl l).1.length ≤ 1000000 := by
  unfold tightS
  split
  · rename_i he
    by_cases hp : isPlantB pl l = true
    · have h16 := (plant_of pl l hp).2.2.1
      show (tightL pl l).length ≤ 1000000
      simp [tightL]
      omega
    · unfold errS at he
      rw [if_neg hp] at he
      cases he
  · simp
end Go.Proofs.Ytalgbihpidpblaa.Print
