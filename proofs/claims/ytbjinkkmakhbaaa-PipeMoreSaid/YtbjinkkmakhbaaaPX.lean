/- PipeEnds: in plain words. -/
import Derived.Test.YtbjinkkmakhbaaaCP
namespace Go.Proofs.Ytbjinkkmakhbaaa.Print
open Go.RowKit Go.Shelf Go.Proofs.YtbjinkkmakhbaaaW.PrintWords Go.Proofs.YtbjinkkmakhbaaaW.PrintLast Go.Proofs.YtbjinkkmakhbaaaW.PrintMore
set_option linter.unusedVariables false
set_option linter.unusedSimpArgs false
theorem anyM_of {l : List S54} : ∀ n, n ≤ l.length → (∀ k, k < n → badM k (rd_T54 l k) = false) → anyM 0 (l.take n) = false
  | 0, _, _ => rfl
  | n + 1, hn, h => by
    rw [anyM_take l n (by omega), anyM_of n (by omega) (fun k hk => h k (by omega)), h n (by omega)]
    rfl
theorem badM_iff (k : Nat) (m : S54) : badM k m = false ↔ (0 ≤ m.f0 ∧ m.f0 ≤ k) ∧ (0 ≤ m.f1 ∧ m.f1 ≤ 1000) ∧ (0 ≤ m.f2 ∧ m.f2 ≤ 2) ∧ (1 ≤ m.f3 ∧ m.f3 ≤ 1000000) := by
  simp only [badM, withinB, Bool.or_eq_false_iff, Bool.not_eq_false', Bool.and_eq_true, decide_eq_true_eq]
  omega
theorem badJ_iff (y : S50) : badJ y = false ↔ (0 ≤ y.f0.f0 ∧ y.f0.f0 ≤ y.f0.f1 ∧ y.f0.f1 ≤ 1000000) ∧ (-1099511627776 ≤ y.f1 ∧ y.f1 ≤ y.f2 ∧ y.f2 ≤ 1099511627776) ∧ (-1 ≤ y.f3 ∧ y.f3 ≤ 1099511627776) := by
  simp only [badJ, withinB, spanB, Bool.or_eq_false_iff, Bool.not_eq_false', Bool.and_eq_true, decide_eq_true_eq]
  omega
theorem anyJ_of {l : List S50} (h : ∀ k, k < l.length → badJ (rd_T50 l k) = false) : anyJ l = false := by
  unfold anyJ
  rw [List.any_eq_false]
  intro y hy
  obtain ⟨k, hk, rfl⟩ := List.mem_iff_getElem.1 hy
  have := h k hk
  rw [rd_T50_eq _ _ hk] at this
  simp [this]
theorem rd50_map {f : S50 → S50} {l : List S50} {k : Nat} (hk : k < l.length) : rd_T50 (l.map f) k = f (rd_T50 l k) := by
  rw [rd_T50_eq _ _ (by simpa using hk), rd_T50_eq _ _ hk, List.getElem_map]
theorem netB_of_ok {lo hi : Int} {js : List S50} {ms : List S54} (h : NetOk lo hi js ms) : netB lo hi js ms = true := by
  have h1 := h.src
  have h2 := h.jl
  have h3 := h.ml
  simp only [netB, spanB, withinB, Bool.and_eq_true, decide_eq_true_eq, Bool.not_eq_true']
  exact ⟨⟨⟨⟨by omega, by omega⟩, by omega⟩, h.jok⟩, h.mok⟩
/-- A junction at which one end alone is drawn. -/
def endJ (d : Bool) (y : S50) : S50 := ⟨⟨endE d y.f0, endE d y.f0⟩, y.f1, y.f2, y.f3⟩
/-- Mains of which nothing but valves was changed: those that were doubtful stand so (o), and those of the way to j are open. -/
structure Turned (ms zs : List S54) (o : Int) (B : Nat → Bool) : Prop where
  len : zs.length = ms.length
  at_ : ∀ k, k < ms.length → (rd_T54 zs k).f0 = (rd_T54 ms k).f0 ∧ (rd_T54 zs k).f1 = (rd_T54 ms k).f1 ∧ (rd_T54 zs k).f3 = (rd_T54 ms k).f3 ∧ (rd_T54 zs k).f2 = if B k = true then 0 else if (rd_T54 ms k).f2 = 2 then o else (rd_T54 ms k).f2
variable {lo hi : Int} {js : List S50} {ms zs : List S54}
theorem turned_ok (hok : NetOk lo hi js ms) {d : Bool} {o : Int} (ho : 0 ≤ o ∧ o ≤ 2) {B : Nat → Bool} (hz : Turned ms zs o B) {src : Int} (hs : src = lo ∨ src = hi) : NetOk src src (js.map (endJ d)) zs where
  src := by have := hok.src; rcases hs with rfl | rfl <;> omega
  jl := by rw [List.length_map]; exact hok.jl
  ml := by rw [List.length_map, hz.len]; exact hok.ml
  jok := anyJ_of fun k hk => by
    rw [List.length_map] at hk
    rw [rd50_map hk, badJ_iff]
    have := junction_ok hok.jok k
    unfold endJ endE
    cases d <;> simp <;> omega
  mok := by
    have := anyM_of (l := zs) zs.length (Nat.le_refl _) fun k hk => by
      rw [hz.len] at hk
      rw [badM_iff]
      have h1 := hz.at_ k hk
      have h2 := mains_ok hok.mok k hk
      rw [h1.1, h1.2.1, h1.2.2.1, h1.2.2.2]
      refine ⟨h2.1, h2.2.1, ?_, h2.2.2.2⟩
      split
      · omega
      · split <;> omega
    rwa [List.take_length] at this
/-- The tree stays as it is: what feeds what, what is lost on the way, and governors. -/
theorem turned_at (hok : NetOk lo hi js ms) {d : Bool} {o : Int} {B : Nat → Bool} (hz : Turned ms zs o B) (O : Nat → Bool) (q : Nat → Int) (src : Int) : ∀ j, j ≤ ms.length → PipeMath.at_ (netM (js.map (endJ d)) zs) O q src j = PipeMath.at_ (netM js ms) O q src j := by
  have hg : ∀ j, (netM (js.map (endJ d)) zs).gov j = (netM js ms).gov j := fun j => by
    show (rd_T50 (js.map (endJ d)) j).f3 = (rd_T50 js j).f3
    by_cases hj : j < js.length
    · rw [rd50_map hj]; rfl
    · unfold rd_T50
      rw [Int.toNat_natCast, List.getD_eq_getElem?_getD, List.getD_eq_getElem?_getD, List.getElem?_eq_none (by simp; omega), List.getElem?_eq_none (by omega)]
  have hout : ∀ k, ¬ k < ms.length → rd_T54 zs k = rd_T54 ms k := fun k hk => by
    unfold rd_T54
    rw [Int.toNat_natCast, List.getD_eq_getElem?_getD, List.getD_eq_getElem?_getD, List.getElem?_eq_none (by rw [hz.len]; omega), List.getElem?_eq_none (by omega)]
  have h0 : ∀ k : Nat, (rd_T54 zs k).f0 = (rd_T54 ms k).f0 ∧ (rd_T54 zs k).f1 = (rd_T54 ms k).f1 := fun k => by
    by_cases hk : k < ms.length
    · exact ⟨(hz.at_ k hk).1, (hz.at_ k hk).2.1⟩
    · rw [hout k hk]; exact ⟨rfl, rfl⟩
  have e : netM (js.map (endJ d)) zs = netM js ms := by
    have e1 : (netM (js.map (endJ d)) zs).n = (netM js ms).n := hz.len
    have e2 : (netM (js.map (endJ d)) zs).par = (netM js ms).par := funext fun k => by
      show min (rd_T54 zs k).f0.toNat k = min (rd_T54 ms k).f0.toNat k
      rw [(h0 k).1]
    have e3 : (netM (js.map (endJ d)) zs).drop = (netM js ms).drop := funext fun k => by
      show max 0 (rd_T54 zs k).f1 = max 0 (rd_T54 ms k).f1
      rw [(h0 k).2]
    have e4 : (netM (js.map (endJ d)) zs).gov = (netM js ms).gov := funext hg
    cases h1 : netM (js.map (endJ d)) zs
    cases h2 : netM js ms
    rw [h1, h2] at e1 e2 e3 e4
    cases e1; cases e2; cases e3; cases e4
    rfl
  intro j _
  rw [e]
theorem turned_net (hok : NetOk lo hi js ms) {d : Bool} {o : Int} {B : Nat → Bool} (hz : Turned ms zs o B) (O : Nat → Bool) (j : Nat) (hj : j ≤ ms.length) : PipeMath.fed (netM (js.map (endJ d)) zs) O j = PipeMath.fed (netM js ms) O j := by
  rw [← fedQ_m, ← fedQ_m]
  have h0 : ∀ k : Nat, k < ms.length → (rd_T54 zs k).f0 = (rd_T54 ms k).f0 := fun k hk => (hz.at_ k hk).1
  have : ∀ j, j ≤ ms.length → fedQ zs O j = fedQ ms O j := by
    intro j
    induction j using Nat.strongRecOn with
    | _ j ih =>
      intro hj
      cases j with
      | zero => rw [fedQ, fedQ]
      | succ k =>
        rw [fedQ, fedQ, h0 k (by omega), ih (min (rd_T54 ms k).f0.toNat k) (by omega) (by omega)]
  exact this j hj
theorem need_end (d e : Bool) (j : Nat) : needM (js.map (endJ d)) e j = needM js d j := by
  unfold needM
  by_cases hj : j < js.length
  · rw [rd50_map hj]
    unfold endJ endE
    cases d <;> cases e <;> rfl
  · unfold rd_T50
    rw [Int.toNat_natCast, List.getD_eq_getElem?_getD, List.getD_eq_getElem?_getD, List.getElem?_eq_none (by simp; omega), List.getElem?_eq_none (by omega)]
    unfold endE z50
    cases d <;> cases e <;> rfl
/-- The valves, as they are turned: those that are open at this end. -/
theorem ends_law (hok : NetOk lo hi js ms) {j : Nat} (hj : j ≤ ms.length) (hst : statusP ms j ≠ 0) (d : Bool)
    (hz : Turned ms zs (if d then 0 else 1) (fun k => PipeMath.behind (netM js ms) k j)) :
    pressS (if d then lo else hi) (if d then lo else hi) (js.map (endJ d)) zs j = (if d then loP js ms lo j else hiP js ms hi j, if d then loP js ms lo j else hiP js ms hi j, 0) := by
  have hz2 := turned_ok hok (d := d) (o := if d then 0 else 1) (by cases d <;> decide) hz (src := if d then lo else hi) (by cases d <;> simp)
  have hl : js.length = ms.length + 1 := hok.ml.symm
  have hfed : PipeMath.fed (netM js ms) (PipeMath.allOpen (valM ms)) j = true := by
    cases h : PipeMath.fed (netM js ms) (PipeMath.allOpen (valM ms)) j
    · exact absurd ((status_zero js hok.mok hj).2 (by rw [h]; simp)) hst
    · rfl
  have hway := (PipeMath.fed_iff (netM js ms) _ j).1 hfed
  -- which valves are open now
  have hopn : ∀ k, k < ms.length → ((rd_T54 zs k).f2 == 0) = (if d then PipeMath.allOpen (valM ms) k else PipeMath.onlyWay (netM js ms) (valM ms) j k) ∧ ((rd_T54 zs k).f2 == 2) = false := fun k hk => by
    have h1 := (hz.at_ k hk).2.2.2
    have h2 := (mains_ok hok.mok k hk).2.2.1
    rw [h1]
    cases hb : PipeMath.behind (netM js ms) k j
    · have hn : ¬ (false = true) := by decide
      rw [if_neg hn]
      by_cases h3 : (rd_T54 ms k).f2 = 2
      · rw [if_pos h3]
        cases d <;> simp [PipeMath.allOpen, PipeMath.onlyWay, valM, h3, hb]
      · rw [if_neg h3]
        have : ((rd_T54 ms k).f2 == 2) = false := by simpa using h3
        cases d <;> simp [PipeMath.allOpen, PipeMath.onlyWay, valM, this, hb, h3]
    · have hw := hway k hb
      rw [if_pos rfl]
      cases d <;> simp [PipeMath.onlyWay, hb]
      · simpa [PipeMath.allOpen] using hw
      · simpa [PipeMath.allOpen] using hw
  have hO : ∀ k, k < ms.length → PipeMath.allOpen (valM zs) k = (if d then PipeMath.allOpen (valM ms) k else PipeMath.onlyWay (netM js ms) (valM ms) j k) ∧ PipeMath.onlyWay (netM (js.map (endJ d)) zs) (valM zs) j k = (if d then PipeMath.allOpen (valM ms) k else PipeMath.onlyWay (netM js ms) (valM ms) j k) := fun k hk => by
    obtain ⟨h1, h2⟩ := hopn k hk
    unfold PipeMath.allOpen PipeMath.onlyWay valM
    simp only [h1, h2, Bool.or_false, Bool.false_and]
    exact ⟨rfl, rfl⟩
  have hfedE : PipeMath.fed (netM js ms) (if d then PipeMath.allOpen (valM ms) else PipeMath.onlyWay (netM js ms) (valM ms) j) j = true := by
    cases d
    · exact PipeMath.way_fed (netM js ms) hfed
    · exact hfed
  have hs2 : statusP zs j ≠ 0 := by
    rw [Ne, status_zero (js.map (endJ d)) hz2.mok (by rw [hz.len]; exact hj), Classical.not_not, turned_net hok hz _ j hj, ← hfedE]
    exact PipeMath.fed_congr _ j fun k hk => by
      rw [(hO k (by omega)).1]
      cases d <;> rfl
  have hjz : j ≤ zs.length := by rw [hz.len]; exact hj
  have hAt : ∀ (O : Nat → Bool) (q : Nat → Int) (src : Int), (∀ k, k < ms.length → O k = (if d then PipeMath.allOpen (valM ms) k else PipeMath.onlyWay (netM js ms) (valM ms) j k)) → (∀ i, q i = needM js d i) → PipeMath.at_ (netM (js.map (endJ d)) zs) O q src j = PipeMath.at_ (netM js ms) (if d then PipeMath.allOpen (valM ms) else PipeMath.onlyWay (netM js ms) (valM ms) j) (needM js d) src j := fun O q src h1 h2 => by
    rw [turned_at hok hz O q src j hj]
    refine PipeMath.at_congr _ _ (fun k hk => ?_) (fun i _ => h2 i) j
    rw [h1 k hk]
    cases d <;> rfl
  have e1 : loP (js.map (endJ d)) zs (if d then lo else hi) j = if d then loP js ms lo j else hiP js ms hi j := by
    rw [loP_m hz2 hjz, hAt _ _ _ (fun k hk => (hO k hk).1) (fun i => need_end d true i)]
    cases d
    · exact (hiP_m hok hj).symm
    · exact (loP_m hok hj).symm
  have e2 : hiP (js.map (endJ d)) zs (if d then lo else hi) j = if d then loP js ms lo j else hiP js ms hi j := by
    rw [hiP_m hz2 hjz, hAt _ _ _ (fun k hk => (hO k hk).2) (fun i => need_end d false i)]
    cases d
    · exact (hiP_m hok hj).symm
    · exact (loP_m hok hj).symm
  unfold pressS
  rw [if_pos (netB_of_ok hz2), if_pos (by
    simp only [withinB, Bool.and_eq_true, decide_eq_true_eq, List.length_map]
    omega), Int.toNat_natCast, if_neg hs2, e1, e2]
end Go.Proofs.Ytbjinkkmakhbaaa.Print
