/- The laws' own helpers, as plain facts: which plants are too large, and when two lists are the same. -/
import Derived.Test.YtalgbihpidpblaaM5
import Derived.Test.YtalgbihpidpblaaPrint3
import Derived.Test.YtalgbihpidpblaaPrint4
namespace Go.Proofs.Ytalgbihpidpblaa.Print
open Go.RowKit Go.Shelf Go.Proofs.YtalgbihpidpblaaW.PrintWords Go.Proofs.YtalgbihpidpblaaW.PrintLast Go.Proofs.YtalgbihpidpblaaW.PrintMore
set_option linter.unusedVariables false
set_option linter.unusedSimpArgs false

theorem w64 {n : Int} (h0 : -9223372036854775808 ≤ n) (h1 : n ≤ 9223372036854775807) : wrap64 n = n := by
  unfold wrap64
  omega
theorem plant_ev (pl : Int) (l : List S47) : Ev (fun k => gasworksref04_Plant.f k pl l) (isPlantB pl l) := Ev.of (fun _ => gasworksref04_Plant.mono _ _ _) (plant_eq pl l)

theorem ints_go (a b : List Int) (hl : a.length = b.length) (hm : a.length ≤ 1000000) : ∀ (d i : Nat), i + d = a.length → Ev (fun k => gasworksref04_Ints.l0 k a b i) (decide (a.drop i = b.drop i))
  | 0, i, h => by
    refine Ev.step (f := fun _ => some true) (fun k => ?_) ?_
    · simp only [gasworksref04_Ints.l0]
      rw [if_neg (by omega)]
    · rw [List.drop_of_length_le (by omega), List.drop_of_length_le (by omega)]
      exact Ev.now _
  | d + 1, i, h => by
    have e1 : a.drop i = rd a i :: a.drop (i + 1) := by rw [List.drop_eq_getElem_cons (by omega), rd_at _ _ (by omega)]
    have e2 : b.drop i = rd b i :: b.drop (i + 1) := by rw [List.drop_eq_getElem_cons (by omega), rd_at _ _ (by omega)]
    have ew : wrap64 ((i : Int) + 1) = ((i + 1 : Nat) : Int) := by rw [w64 (by omega) (by omega)]; omega
    by_cases hq : rd a i = rd b i
    · refine Ev.step (f := fun k => gasworksref04_Ints.l0 k a b (i + 1 : Nat)) (fun k => ?_) ?_
      · simp only [gasworksref04_Ints.l0]
        rw [if_pos (by omega), if_pos (by omega), if_pos (by omega), if_pos hq, ew]
      · have := ints_go a b hl hm d (i + 1) (by omega)
        rw [e1, e2]
        simpa [hq] using this
    · refine Ev.step (f := fun _ => some false) (fun k => ?_) ?_
      · simp only [gasworksref04_Ints.l0]
        rw [if_pos (by omega), if_pos (by omega), if_pos (by omega), if_neg hq]
      · rw [e1, e2]
        simp only [List.cons.injEq, hq, false_and, decide_false]
        exact Ev.now _
theorem ints_ev (a b : List Int) (hm : a.length ≤ 1000000) : Ev (fun k => gasworksref04_Ints.f k a b) (decide (a = b)) := by
  unfold gasworksref04_Ints.f
  by_cases hl : a.length = b.length
  · have := ints_go a b hl hm a.length 0 (by omega)
    refine Ev.congr (fun k => ?_) this
    rw [if_pos (by omega)]
    rfl
  · have : decide (a = b) = false := decide_eq_false (fun e => hl (by rw [e]))
    rw [this]
    refine Ev.congr (fun k => ?_) (Ev.now _)
    rw [if_neg (by omega)]

theorem spans_go (a : List S45) (hm : a.length ≤ 1000000) : ∀ (d i : Nat), i + d = a.length → Ev (fun k => gasworksref04_Spans.l0 k a a i) true
  | 0, i, h => by
    refine Ev.step (f := fun _ => some true) (fun k => ?_) (Ev.now _)
    simp only [gasworksref04_Spans.l0]
    rw [if_neg (by omega)]
  | d + 1, i, h => by
    have ew : wrap64 ((i : Int) + 1) = ((i + 1 : Nat) : Int) := by rw [w64 (by omega) (by omega)]; omega
    refine Ev.step (f := fun k => gasworksref04_Spans.l0 k a a (i + 1 : Nat)) (fun k => ?_) (spans_go a hm d (i + 1) (by omega))
    simp only [gasworksref04_Spans.l0]
    rw [if_pos (by omega), if_pos (by omega), if_pos (by omega), if_neg (by simp), ew]
theorem spans_ev (a : List S45) (hm : a.length ≤ 1000000) : Ev (fun k => gasworksref04_Spans.f k a a) true := by
  unfold gasworksref04_Spans.f
  refine Ev.congr (fun k => ?_) (spans_go a hm a.length 0 (by omega))
  rw [if_pos rfl]
  rfl

/-! ### Which plants are too large -/
theorem large_step (pl : Int) (l : List S47) (i n : Nat) (h0 : i < l.length) (hi : i ≤ 100) (h2 : n ≤ 8000) (x : S47) (hx : rd_T47 l i = x) (hg : goodF pl x) (k : Nat) :
    gasworkslaw04_large.j2 (k + 1) 8000 n i true pl l = if n * min 8001 (spanN x) > 8000 then some true else gasworkslaw04_large.l0 k 8000 ((n * min 8001 (spanN x) : Nat) : Int) (i + 1 : Nat) pl l := by
  unfold goodF at hg
  have hs : (spanN x : Int) = x.f2.f1 - x.f2.f0 + 1 := by unfold spanN; omega
  have hm : min 8001 (spanN x) ≤ 8001 := Nat.min_le_left _ _
  have hb : n * min 8001 (spanN x) ≤ 8000 * 8001 := Nat.mul_le_mul h2 hm
  have e4 : mn 8001 (spanN x : Int) = ((min 8001 (spanN x) : Nat) : Int) := by unfold mn; split <;> omega
  have e5 : wrap64 ((n : Int) * ((min 8001 (spanN x) : Nat) : Int)) = ((n * min 8001 (spanN x) : Nat) : Int) := by
    rw [← Int.natCast_mul, w64 (by omega) (by omega)]
  have ew : wrap64 ((i : Int) + 1) = ((i + 1 : Nat) : Int) := (w64 (by omega) (by omega)).trans (by omega)
  have e1 : wrap64 (8000 + 1) = 8001 := w64 (by omega) (by omega)
  have e2 : wrap64 (x.f2.f1 - x.f2.f0) = x.f2.f1 - x.f2.f0 := w64 (by omega) (by omega)
  have e3 : wrap64 (x.f2.f1 - x.f2.f0 + 1) = (spanN x : Int) := (w64 (by omega) (by omega)).trans hs.symm
  have c0 : (0 : Int) ≤ (i : Int) := Int.natCast_nonneg i
  have c1 : (i : Int) < (l.length : Int) := Int.ofNat_lt.2 h0
  rw [gasworkslaw04_large.j2]
  rw [hx, e1, e2, e3, e4, e5, ew]
  rw [if_pos rfl, if_pos c0, if_pos c1]
  by_cases hb2 : n * min 8001 (spanN x) > 8000
  · rw [if_pos hb2, if_pos (show ((n * min 8001 (spanN x) : Nat) : Int) > 8000 from Int.ofNat_lt.2 hb2)]
  · rw [if_neg hb2, if_neg (show ¬ ((n * min 8001 (spanN x) : Nat) : Int) > 8000 from fun h => hb2 (Int.ofNat_lt.1 h))]

theorem large_go (pl : Int) (l : List S47) (hp : isPlantB pl l = true) : ∀ (d i n : Nat), i + d = l.length → 1 ≤ n → n ≤ 8000 →
    ∃ b, Ev (fun k => gasworkslaw04_large.l0 k 8000 n i pl l) b ∧ (b = false → n * cnt (l.drop i) ≤ 8000)
  | 0, i, n, h, h1, h2 => by
    refine ⟨false, ?_, fun _ => ?_⟩
    · refine Ev.step (f := fun k => gasworkslaw04_large.j2 k 8000 n i false pl l) (fun k => ?_) (Ev.step (f := fun _ => some false) (fun k => ?_) (Ev.now _))
      · rw [gasworkslaw04_large.l0]
        rw [if_neg (by omega)]
      · rw [gasworkslaw04_large.j2]
        rw [if_neg (by decide)]
    · rw [List.drop_of_length_le (by omega)]
      simp [cnt]
      omega
  | d + 1, i, n, h, h1, h2 => by
    have h16 := (plant_of pl l hp).2.2.1
    have hgx : goodF pl (rd_T47 l i) := rd_good pl l (plant_of pl l hp).2.2.2 _ (by omega) (by omega)
    have e : l.drop i = rd_T47 l i :: l.drop (i + 1) := by rw [List.drop_eq_getElem_cons (by omega), rd_T45_eq _ _ (by omega)]
    have hst := large_step pl l i n (by omega) (by omega) h2 _ rfl hgx
    rw [e]
    have first : ∀ r, Ev (fun k => gasworkslaw04_large.j2 k 8000 n i true pl l) r → Ev (fun k => gasworkslaw04_large.l0 k 8000 n i pl l) r := by
      intro r hr
      refine Ev.step (f := fun k => (gasworksref04_Plant.f k pl l).bind fun t => gasworkslaw04_large.j2 k 8000 n i t pl l) (fun k => ?_) (Ev.bind (plant_ev pl l) (by rw [hp]; exact hr))
      rw [gasworkslaw04_large.l0]
      rw [if_pos (by omega)]
    unfold goodF at hgx
    have hs : (spanN (rd_T47 l i) : Int) = (rd_T47 l i).f2.f1 - (rd_T47 l i).f2.f0 + 1 := by unfold spanN; omega
    have hs1 : 1 ≤ spanN (rd_T47 l i) := by omega
    clear hs hgx
    generalize hsn : spanN (rd_T47 l i) = s at *
    by_cases hbig : n * min 8001 s > 8000
    · refine ⟨true, first _ (Ev.step (f := fun _ => some true) (fun k => ?_) (Ev.now _)), fun hf => by cases hf⟩
      rw [hst, if_pos hbig]
    · have hle : min 8001 s ≤ 8000 := by
        have := Nat.mul_le_mul_right (min 8001 s) h1
        omega
      have hme : min 8001 s = s := by omega
      rw [hme] at hst hbig
      obtain ⟨b, hb1, hb2⟩ := large_go pl l hp d (i + 1) (n * s) (by omega) (by have := Nat.mul_le_mul h1 hs1; omega) (by omega)
      refine ⟨b, first _ (Ev.step (fun k => ?_) hb1), fun hf => ?_⟩
      · rw [hst, if_neg hbig]
      · have := hb2 hf
        simp only [cnt]
        rw [hsn, ← Nat.mul_assoc]
        exact this

theorem large_not (pl : Int) (l : List S47) (hp : isPlantB pl l = false) (hl : l.length ≤ 100) : Ev (fun k => gasworkslaw04_large.l0 k 8000 1 0 pl l) false := by
  have last : Ev (fun k => gasworkslaw04_large.j2 k 8000 1 0 false pl l) false := by
    refine Ev.step (f := fun _ => some false) (fun k => ?_) (Ev.now _)
    rw [gasworkslaw04_large.j2]
    rw [if_neg (by decide)]
  by_cases h : (0 : Int) < (l.length : Int)
  · refine Ev.step (f := fun k => (gasworksref04_Plant.f k pl l).bind fun t => gasworkslaw04_large.j2 k 8000 1 0 t pl l) (fun k => ?_) (Ev.bind (plant_ev pl l) (by rw [hp]; exact last))
    rw [gasworkslaw04_large.l0]
    rw [if_pos h]
  · refine Ev.step (f := fun k => gasworkslaw04_large.j2 k 8000 1 0 false pl l) (fun k => ?_) last
    rw [gasworkslaw04_large.l0]
    rw [if_neg h]

theorem large_ev (pl : Int) (l : List S47) : ∃ b, Ev (fun k => gasworkslaw04_large.f k pl l 8 8000) b ∧ (b = false → isPlantB pl l = true → cnt l ≤ 8000) := by
  unfold gasworkslaw04_large.f
  have yes : Ev (fun k => gasworkslaw04_large.j0 k 8000 true pl l) true := by
    refine Ev.step (f := fun _ => some true) (fun k => ?_) (Ev.now _)
    rw [gasworkslaw04_large.j0]
    rw [if_pos rfl]
  have no : ∀ r, Ev (fun k => gasworkslaw04_large.l0 k 8000 1 0 pl l) r → Ev (fun k => gasworkslaw04_large.j0 k 8000 false pl l) r := by
    intro r hr
    refine Ev.step (f := fun k => gasworkslaw04_large.l0 k 8000 1 0 pl l) (fun k => ?_) hr
    rw [gasworkslaw04_large.j0]
    rw [if_neg (by decide)]
  by_cases h20 : (l.length : Int) > 20
  · have e : decide ((l.length : Int) > 20) = true := decide_eq_true h20
    refine ⟨true, Ev.congr (fun k => ?_) yes, fun h => by cases h⟩
    rw [e, if_pos (by omega), if_neg (by omega)]
  · have e : decide ((l.length : Int) > 20) = false := decide_eq_false h20
    have main : ∃ b, Ev (fun k => gasworkslaw04_large.l0 k 8000 1 0 pl l) b ∧ (b = false → isPlantB pl l = true → cnt l ≤ 8000) := by
      by_cases hp : isPlantB pl l = true
      · obtain ⟨b, hb1, hb2⟩ := large_go pl l hp l.length 0 1 (by omega) (by omega) (by omega)
        refine ⟨b, hb1, fun hf _ => ?_⟩
        have := hb2 hf
        simpa using this
      · exact ⟨false, large_not pl l (by simpa using hp) (by omega), fun _ h => absurd h hp⟩
    obtain ⟨b, hb1, hb2⟩ := main
    by_cases h8 : (l.length : Int) > 8
    · by_cases h16 : (l.length : Int) ≤ 16
      · refine ⟨true, Ev.congr (fun k => ?_) yes, fun h => by cases h⟩
        rw [if_pos h8, if_pos h16]
      · refine ⟨b, Ev.congr (fun k => ?_) (no b hb1), hb2⟩
        rw [if_pos h8, if_neg h16, e]
    · refine ⟨b, Ev.congr (fun k => ?_) (no b hb1), hb2⟩
      rw [if_neg h8, e]

theorem truRef_len (pl : Int) (l : List S47) : (truRef pl l).1.length ≤ 1000000 := by
  unfold truRef
  split
  · rename_i hp
    have h16 := (plant_of pl l hp).2.2.1
    split
    · simp
    · rename_i t q hT
      have := tru_len l l [] t (by rw [hT]; simp)
      show t.length ≤ 1000000
      omega
  · simp
theorem tightS_len (pl : Int) (l : List S47) : (tightS pl l).1.length ≤ 1000000 := by
  unfold tightS
  split
  · rename_i he
    by_cases hp : isPlantB pl l = true
    · have h16 := (plant_of pl l hp).2.2.1
      show (tightL pl l).length ≤ 1000000
      simp [tightL]
      omega
    · unfold errS at he
      rw [if_neg hp] at he
      cases he
  · simp
end Go.Proofs.Ytalgbihpidpblaa.Print
