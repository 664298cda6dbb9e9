/- PipeMore: in plain words. -/
import Derived.Test.YtbjinkkmakhbaaaPX
import Derived.Test.YtbjinkkmakhbaaaEH
namespace PipeMath
variable {N N' : Net}
theorem fed_par (hp : ∀ k, N'.par k = N.par k) (O : Nat → Bool) : ∀ j, fed N' O j = fed N O j
  | 0 => by rw [fed, fed]
  | k + 1 => by
    rw [fed, fed, hp k, fed_par hp O (N.par k)]
termination_by j => j
decreasing_by exact Nat.lt_succ_of_le (N.le k)
theorem behind_par (hp : ∀ k, N'.par k = N.par k) (k : Nat) : ∀ j, behind N' k j = behind N k j
  | 0 => by rw [behind, behind]
  | j + 1 => by
    rw [behind, behind, hp j, behind_par hp k (N.par j)]
termination_by j => j
decreasing_by exact Nat.lt_succ_of_le (N.le j)
theorem at_more (hn : N'.n = N.n) (hp : ∀ k, N'.par k = N.par k) (hd : ∀ k, N.drop k ≤ N'.drop k) {O : Nat → Bool} (hg : ∀ j, fed N O j = true → N'.gov j = N.gov j) {d d' : Nat → Int}
    (h : ∀ j, fed N O j = true → d j ≤ d' j) (h0 : ∀ j, 0 ≤ d j) {s s' : Int} (hs : s' ≤ s) : ∀ j, fed N O j = true → at_ N' O d' s' j ≤ at_ N O d s j
  | 0, hf => by
    rw [at_, at_, hg 0 hf]
    exact cap_mono hs
  | k + 1, hf => by
    have hf2 : fed N O (N.par k) = true := by
      rw [fed, Bool.and_eq_true] at hf
      exact hf.2
    have ih := at_more hn hp hd hg h h0 hs (N.par k) hf2
    rw [at_, at_, hg (k + 1) hf, hp k]
    refine cap_mono ?_
    have ht0 : 0 ≤ through N O d k := through_nn N h0 k
    have ht : through N O d k ≤ through N' O d' k := by
      unfold through
      rw [hn]
      refine sumN_mono (fun i => ?_) _
      rw [behind_par hp, fed_par hp]
      cases hb : behind N k i <;> cases hfi : fed N O i <;> simp
      exact h i hfi
    have := Int.mul_le_mul (hd k) ht ht0 (N'.dropNn k)
    omega
termination_by j => j
decreasing_by exact Nat.lt_succ_of_le (N.le k)
end PipeMath
namespace Go.Proofs.Ytbjinkkmakhbaaa.Print
open Go.RowKit Go.Shelf Go.Proofs.YtbjinkkmakhbaaaW.PrintWords Go.Proofs.YtbjinkkmakhbaaaW.PrintLast Go.Proofs.YtbjinkkmakhbaaaW.PrintMore
set_option linter.unusedVariables false
set_option linter.unusedSimpArgs false
/-- Mains with the same ways and valves. -/
structure SameWay (ms zs : List S54) : Prop where
  len : zs.length = ms.length
  f0 : ∀ k, k < ms.length → (rd_T54 zs k).f0 = (rd_T54 ms k).f0
  f2 : ∀ k, k < ms.length → (rd_T54 zs k).f2 = (rd_T54 ms k).f2
theorem rd54_out {l : List S54} {k : Nat} (h : ¬ k < l.length) : rd_T54 l k = z54 := by
  unfold rd_T54
  rw [Int.toNat_natCast, List.getD_eq_getElem?_getD, List.getElem?_eq_none (by omega)]
  rfl
theorem rd50_out {l : List S50} {k : Nat} (h : ¬ k < l.length) : rd_T50 l k = z50 := by
  unfold rd_T50
  rw [Int.toNat_natCast, List.getD_eq_getElem?_getD, List.getElem?_eq_none (by omega)]
  rfl
section
variable {lo hi lo' hi' : Int} {js js' : List S50} {ms zs : List S54}
theorem SameWay.par (h : SameWay ms zs) (k : Nat) : (netM js' zs).par k = (netM js ms).par k := by
  show min (rd_T54 zs k).f0.toNat k = min (rd_T54 ms k).f0.toNat k
  by_cases hk : k < ms.length
  · rw [h.f0 k hk]
  · rw [rd54_out hk, rd54_out (by rw [h.len]; exact hk)]
theorem SameWay.valves (h : SameWay ms zs) (k : Nat) : ((rd_T54 zs k).f2 == 0) = ((rd_T54 ms k).f2 == 0) ∧ ((rd_T54 zs k).f2 == 2) = ((rd_T54 ms k).f2 == 2) := by
  by_cases hk : k < ms.length
  · rw [h.f2 k hk]; exact ⟨rfl, rfl⟩
  · rw [rd54_out hk, rd54_out (by rw [h.len]; exact hk)]; exact ⟨rfl, rfl⟩
theorem SameWay.all (h : SameWay ms zs) : PipeMath.allOpen (valM zs) = PipeMath.allOpen (valM ms) := funext fun k => by
  unfold PipeMath.allOpen valM
  simp only [(h.valves k).1, (h.valves k).2]
theorem SameWay.way (h : SameWay ms zs) (j : Nat) : PipeMath.onlyWay (netM js' zs) (valM zs) j = PipeMath.onlyWay (netM js ms) (valM ms) j := funext fun k => by
  unfold PipeMath.onlyWay valM
  simp only [(h.valves k).1, (h.valves k).2, PipeMath.behind_par (fun k => h.par (js := js) (js' := js') k)]
theorem SameWay.status (h : SameWay ms zs) (hm : anyM 0 ms = false) (hz : anyM 0 zs = false) {j : Nat} (hj : j ≤ ms.length) : statusP zs j = 0 ↔ statusP ms j = 0 := by
  rw [status_zero [] hz (by rw [h.len]; exact hj), status_zero [] hm hj, h.all, PipeMath.fed_par (fun k => h.par (js := []) (js' := []) k)]
theorem SameWay.symm (h : SameWay ms zs) : SameWay zs ms := ⟨h.len.symm, fun k hk => (h.f0 k (by rw [← h.len]; exact hk)).symm, fun k hk => (h.f2 k (by rw [← h.len]; exact hk)).symm⟩
theorem press_more (hok : NetOk lo hi js ms) (hok' : NetOk lo' hi' js' zs) (h : SameWay ms zs) (hdr : ∀ k, k < ms.length → (rd_T54 ms k).f1 ≤ (rd_T54 zs k).f1)
    (hnd : ∀ i : Nat, i ≤ ms.length → statusP ms i ≠ 0 → (rd_T50 js i).f0.f0 ≤ (rd_T50 js' i).f0.f0 ∧ (rd_T50 js i).f0.f1 ≤ (rd_T50 js' i).f0.f1 ∧ (rd_T50 js' i).f3 = (rd_T50 js i).f3)
    (hlo : lo' ≤ lo) (hhi : hi' ≤ hi) {j : Nat} (hj : j ≤ ms.length) (hst : statusP ms j ≠ 0) : loP js' zs lo' j ≤ loP js ms lo j ∧ hiP js' zs hi' j ≤ hiP js ms hi j := by
  have hjz : j ≤ zs.length := by rw [h.len]; exact hj
  have hl := hok.ml
  have hl' := hok'.ml
  have hzl := h.len
  have hfed : PipeMath.fed (netM js ms) (PipeMath.allOpen (valM ms)) j = true := by
    cases hh : PipeMath.fed (netM js ms) (PipeMath.allOpen (valM ms)) j
    · exact absurd ((status_zero js hok.mok hj).2 (by rw [hh]; simp)) hst
    · rfl
  have hd : ∀ k, (netM js ms).drop k ≤ (netM js' zs).drop k := fun k => by
    show max 0 (rd_T54 ms k).f1 ≤ max 0 (rd_T54 zs k).f1
    by_cases hk : k < ms.length
    · have := hdr k hk
      omega
    · rw [rd54_out hk, rd54_out (by rw [h.len]; exact hk)]
      exact Int.le_refl _
  have hall : ∀ i, PipeMath.fed (netM js ms) (PipeMath.allOpen (valM ms)) i = true → (rd_T50 js i).f0.f0 ≤ (rd_T50 js' i).f0.f0 ∧ (rd_T50 js i).f0.f1 ≤ (rd_T50 js' i).f0.f1 ∧ (rd_T50 js' i).f3 = (rd_T50 js i).f3 := fun i hi' => by
    by_cases hin : i ≤ ms.length
    · exact hnd i hin (fun e => (status_zero js hok.mok hin).1 e hi')
    · rw [rd50_out (l := js) (by omega), rd50_out (l := js') (by omega)]
      exact ⟨Int.le_refl _, Int.le_refl _, rfl⟩
  have hway : ∀ i, PipeMath.fed (netM js ms) (PipeMath.onlyWay (netM js ms) (valM ms) j) i = true → PipeMath.fed (netM js ms) (PipeMath.allOpen (valM ms)) i = true := fun i hi' =>
    PipeMath.fed_mono _ (fun k hk => by
      unfold PipeMath.onlyWay at hk
      unfold PipeMath.allOpen
      cases h1 : (valM ms).opn k <;> cases h2 : (valM ms).doubt k <;> simp [h1, h2] at hk ⊢) i hi'
  rw [loP_m hok hj, hiP_m hok hj, loP_m hok' hjz, hiP_m hok' hjz, h.all, h.way (js := js) (js' := js') j]
  refine ⟨PipeMath.at_more (N := netM js ms) (N' := netM js' zs) h.len (fun k => h.par k) hd (fun i hi' => (hall i hi').2.2) (fun i hi' => ?_) (need_nn hok true) hlo j hfed,
    PipeMath.at_more (N := netM js ms) (N' := netM js' zs) h.len (fun k => h.par k) hd (fun i hi' => (hall i (hway i hi')).2.2) (fun i hi' => ?_) (need_nn hok false) hhi j (PipeMath.way_fed (netM js ms) hfed)⟩
  · exact (hall i hi').2.1
  · exact (hall i (hway i hi')).1
theorem press_at (hok : NetOk lo hi js ms) {j : Nat} (hj : j ≤ ms.length) (hst : statusP ms j ≠ 0) : pressS lo hi js ms j = (loP js ms lo j, hiP js ms hi j, 0) := by
  have := hok.ml
  unfold pressS
  rw [if_pos (netB_of_ok hok), if_pos (by
    simp only [withinB, Bool.and_eq_true, decide_eq_true_eq]
    omega), Int.toNat_natCast, if_neg hst]
/-- A greater network: nothing goes higher. -/
theorem more_law (hok : NetOk lo hi js ms) (hok' : NetOk lo' hi' js' zs) (h : SameWay ms zs) (hdr : ∀ k, k < ms.length → (rd_T54 ms k).f1 ≤ (rd_T54 zs k).f1)
    (hnd : ∀ i : Nat, i ≤ ms.length → statusP ms i ≠ 0 → (rd_T50 js i).f0.f0 ≤ (rd_T50 js' i).f0.f0 ∧ (rd_T50 js i).f0.f1 ≤ (rd_T50 js' i).f0.f1 ∧ (rd_T50 js' i).f3 = (rd_T50 js i).f3)
    (hlo : lo' ≤ lo) (hhi : hi' ≤ hi) {j : Nat} (hj : j ≤ ms.length) (hst : statusP ms j ≠ 0) : ∃ L H, pressS lo' hi' js' zs j = (L, H, 0) ∧ L ≤ loP js ms lo j ∧ H ≤ hiP js ms hi j := by
  have h1 := press_more hok hok' h hdr hnd hlo hhi hj hst
  exact ⟨_, _, press_at hok' (by rw [h.len]; exact hj) (fun e => hst ((h.status hok.mok hok'.mok hj).1 e)), h1.1, h1.2⟩
/-- A lesser one: nothing goes lower. -/
theorem less_law (hok : NetOk lo hi js ms) (hok' : NetOk lo' hi' js' zs) (h : SameWay ms zs) (hdr : ∀ k, k < ms.length → (rd_T54 zs k).f1 ≤ (rd_T54 ms k).f1)
    (hnd : ∀ i : Nat, i ≤ ms.length → statusP ms i ≠ 0 → (rd_T50 js' i).f0.f0 ≤ (rd_T50 js i).f0.f0 ∧ (rd_T50 js' i).f0.f1 ≤ (rd_T50 js i).f0.f1 ∧ (rd_T50 js' i).f3 = (rd_T50 js i).f3)
    (hlo : lo ≤ lo') (hhi : hi ≤ hi') {j : Nat} (hj : j ≤ ms.length) (hst : statusP ms j ≠ 0) : ∃ L H, pressS lo' hi' js' zs j = (L, H, 0) ∧ loP js ms lo j ≤ L ∧ hiP js ms hi j ≤ H := by
  have hst' : statusP zs j ≠ 0 := fun e => hst ((h.status hok.mok hok'.mok hj).1 e)
  have h1 := press_more hok' hok h.symm (fun k hk => hdr k (by rw [← h.len]; exact hk)) (fun i hi' hs => by
    have hi2 : i ≤ ms.length := by rw [← h.len]; exact hi'
    have h3 := hnd i hi2 (fun e => hs ((h.status hok.mok hok'.mok hi2).2 e))
    exact ⟨h3.1, h3.2.1, h3.2.2.symm⟩) hlo hhi (by rw [h.len]; exact hj) hst'
  exact ⟨_, _, press_at hok' (by rw [h.len]; exact hj) hst', h1.1, h1.2⟩
/-- Need and governor of junctions that no truth feeds. -/
def cutJ (by_ : Int) (y : S50) : S50 := ⟨⟨0, by_⟩, y.f1, y.f2, by_⟩
theorem cut_law (hok : NetOk lo hi js ms) (hok' : NetOk lo hi js' ms) (hnd : ∀ i : Nat, i ≤ ms.length → statusP ms i ≠ 0 → rd_T50 js' i = rd_T50 js i) {j : Nat} (hj : j ≤ ms.length) (hst : statusP ms j ≠ 0) :
    pressS lo hi js' ms j = (loP js ms lo j, hiP js ms hi j, 0) := by
  have hs : SameWay ms ms := ⟨rfl, fun _ _ => rfl, fun _ _ => rfl⟩
  have h1 := press_more hok hok' hs (fun _ _ => Int.le_refl _) (fun i hi' h => by rw [hnd i hi' h]; exact ⟨Int.le_refl _, Int.le_refl _, rfl⟩) (Int.le_refl _) (Int.le_refl _) hj hst
  have h2 := press_more hok' hok hs (fun _ _ => Int.le_refl _) (fun i hi' h => by rw [hnd i hi' h]; exact ⟨Int.le_refl _, Int.le_refl _, rfl⟩) (Int.le_refl _) (Int.le_refl _) hj hst
  rw [press_at hok' hj hst, show loP js' ms lo j = loP js ms lo j by omega, show hiP js' ms hi j = hiP js ms hi j by omega]
end
end Go.Proofs.Ytbjinkkmakhbaaa.Print

namespace Go.Proofs.Ytbjinkkmakhbaaa.Print
open Go.RowKit Go.Shelf Go.Proofs.YtbjinkkmakhbaaaW.PrintWords Go.Proofs.YtbjinkkmakhbaaaW.PrintLast Go.Proofs.YtbjinkkmakhbaaaW.PrintMore
set_option linter.unusedVariables false
set_option linter.unusedSimpArgs false
section
variable {lo hi : Int} {js yj : List S50} {ms ym : List S54} {b : Int}
theorem badJ_rd (hok : NetOk lo hi js ms) (k : Nat) : badJ (rd_T50 js k) = false := by
  rw [badJ_iff]
  exact junction_ok hok.jok k
theorem badM_rd (hok : NetOk lo hi js ms) {k : Nat} (hk : k < ms.length) : badM k (rd_T54 ms k) = false := by
  rw [badM_iff]
  exact mains_ok hok.mok k hk
theorem anyM_all {l : List S54} (h : ∀ k, k < l.length → badM k (rd_T54 l k) = false) : anyM 0 l = false := by
  have := anyM_of l.length (Nat.le_refl _) h
  rwa [List.take_length] at this
def moreJ (b : Int) (y : S50) : S50 := ⟨⟨min 1000000 (y.f0.f0 + b), min 1000000 (y.f0.f1 + b)⟩, y.f1, y.f2, y.f3⟩
def moreM (r : Int) (m : S54) : S54 := ⟨m.f0, min 1000 (m.f1 + r), m.f2, m.f3⟩
/-- Mains of the greater network. -/
structure MoreM (ms ym : List S54) : Prop where
  way : SameWay ms ym
  ok : anyM 0 ym = false
  drop : ∀ k, k < ms.length → (rd_T54 ms k).f1 ≤ (rd_T54 ym k).f1
theorem moreM_same (hok : NetOk lo hi js ms) : MoreM ms ms := ⟨⟨rfl, fun _ _ => rfl, fun _ _ => rfl⟩, hok.mok, fun _ _ => Int.le_refl _⟩
theorem moreM_set (hok : NetOk lo hi js ms) {k : Nat} (hk : k < ms.length) {r : Int} (h0 : 0 ≤ r) : MoreM ms (ms.set k (moreM r (rd_T54 ms k))) := by
  have hm := mains_ok hok.mok k hk
  refine ⟨⟨List.length_set, fun q hq => ?_, fun q hq => ?_⟩, anyM_all fun q hq => ?_, fun q hq => ?_⟩
  · rw [rd_set54 hk]
    split
    · rename_i e; subst e; rfl
    · rfl
  · rw [rd_set54 hk]
    split
    · rename_i e; subst e; rfl
    · rfl
  · rw [List.length_set] at hq
    rw [rd_set54 hk]
    split
    · rename_i e
      subst e
      rw [badM_iff]
      unfold moreM
      show (0 ≤ (rd_T54 ms q).f0 ∧ (rd_T54 ms q).f0 ≤ q) ∧ (0 ≤ min 1000 ((rd_T54 ms q).f1 + r) ∧ min 1000 ((rd_T54 ms q).f1 + r) ≤ 1000) ∧ _
      exact ⟨hm.1, by omega, hm.2.2.1, hm.2.2.2⟩
    · exact badM_rd hok hq
  · rw [rd_set54 hk]
    split
    · rename_i e
      subst e
      show (rd_T54 ms q).f1 ≤ min 1000 ((rd_T54 ms q).f1 + r)
      omega
    · exact Int.le_refl _
theorem more_case (hok : NetOk lo hi js ms) (hb : 0 ≤ b) {jn : Nat} (hjn : jn < js.length) (hm : MoreM ms ym) {j : Nat} (hj : j ≤ ms.length) (hst : statusP ms j ≠ 0) :
    ∃ L H, pressS lo hi (js.set jn (moreJ b (rd_T50 js jn))) ym j = (L, H, 0) ∧ L ≤ loP js ms lo j ∧ H ≤ hiP js ms hi j := by
  have hJ := junction_ok hok.jok jn
  have hok' : NetOk lo hi (js.set jn (moreJ b (rd_T50 js jn))) ym := ⟨hok.src, by rw [List.length_set]; exact hok.jl, by rw [List.length_set, hm.way.len]; exact hok.ml, anyJ_of fun q hq => by
    rw [rd_set50 hjn]
    split
    · rw [badJ_iff]
      unfold moreJ
      show (0 ≤ min 1000000 ((rd_T50 js jn).f0.f0 + b) ∧ min 1000000 ((rd_T50 js jn).f0.f0 + b) ≤ min 1000000 ((rd_T50 js jn).f0.f1 + b) ∧ min 1000000 ((rd_T50 js jn).f0.f1 + b) ≤ 1000000) ∧ _
      exact ⟨by omega, hJ.2.1, hJ.2.2⟩
    · exact badJ_rd hok q, hm.ok⟩
  refine more_law hok hok' hm.way hm.drop (fun i _ _ => ?_) (Int.le_refl _) (Int.le_refl _) hj hst
  rw [rd_set50 hjn]
  split
  · rename_i e
    subst e
    show (rd_T50 js i).f0.f0 ≤ min 1000000 ((rd_T50 js i).f0.f0 + b) ∧ (rd_T50 js i).f0.f1 ≤ min 1000000 ((rd_T50 js i).f0.f1 + b) ∧ (rd_T50 js i).f3 = (rd_T50 js i).f3
    omega
  · exact ⟨Int.le_refl _, Int.le_refl _, rfl⟩
theorem high_case (hok : NetOk lo hi js ms) (hb : 0 ≤ b) {j : Nat} (hj : j ≤ ms.length) (hst : statusP ms j ≠ 0) :
    ∃ L H, pressS (min 1099511627776 (lo + b)) (min 1099511627776 (hi + b)) js ms j = (L, H, 0) ∧ loP js ms lo j ≤ L ∧ hiP js ms hi j ≤ H := by
  have hs := hok.src
  have hok' : NetOk (min 1099511627776 (lo + b)) (min 1099511627776 (hi + b)) js ms := ⟨by omega, hok.jl, hok.ml, hok.jok, hok.mok⟩
  exact less_law hok hok' ⟨rfl, fun _ _ => rfl, fun _ _ => rfl⟩ (fun _ _ => Int.le_refl _) (fun _ _ _ => ⟨Int.le_refl _, Int.le_refl _, rfl⟩) (by omega) (by omega) hj hst
theorem rd_with (s : Nat) (ms : List S54) : ∀ (d k : Nat), k + d = ms.length → ∀ q, q < ms.length → rd_T54 (layK s ms k) q = if q < k ∧ s.testBit q = true then halfM (rd_T54 ms q) else rd_T54 ms q := by
  intro d k
  induction k generalizing d with
  | zero =>
    intro h q hq
    rw [layK_0, if_neg (by omega)]
  | succ k ih =>
    intro h q hq
    have h1 := ih (d + 1) (by omega)
    rw [layK_succ s ms k (by omega)]
    by_cases hb : s.testBit k = true
    · rw [if_pos hb, rd_set54 (by rw [layK_len]; omega)]
      by_cases e : q = k
      · subst e
        rw [if_pos rfl, if_pos ⟨by omega, hb⟩]
      · rw [if_neg e, h1 q hq]
        by_cases h2 : q < k ∧ s.testBit q = true
        · rw [if_pos h2, if_pos ⟨by omega, h2.2⟩]
        · rw [if_neg h2, if_neg (fun h3 => h2 ⟨by omega, h3.2⟩)]
    · rw [if_neg hb, h1 q hq]
      by_cases h2 : q < k ∧ s.testBit q = true
      · rw [if_pos h2, if_pos ⟨by omega, h2.2⟩]
      · rw [if_neg h2, if_neg (fun h3 => h2 ⟨by
          have : q ≠ k := fun e => by subst e; exact hb h3.2
          omega, h3.2⟩)]
theorem half_le {a : Int} (h : 0 ≤ a) : Int.tdiv (a + 1) 2 ≤ a := by
  rw [Int.tdiv_eq_ediv_of_nonneg (by omega)]
  omega
theorem two_case (hok : NetOk lo hi js ms) (s : Nat) {j : Nat} (hj : j ≤ ms.length) (hst : statusP ms j ≠ 0) :
    ∃ L H, pressS lo hi js (withN s 0 ms) j = (L, H, 0) ∧ loP js ms lo j ≤ L ∧ hiP js ms hi j ≤ H := by
  have hr : ∀ q, q < ms.length → rd_T54 (withN s 0 ms) q = if s.testBit q = true then halfM (rd_T54 ms q) else rd_T54 ms q := fun q hq => by
    have := rd_with s ms 0 ms.length (by omega) q hq
    rw [layK_all] at this
    rw [this]
    by_cases hb : s.testBit q = true
    · rw [if_pos hb, if_pos ⟨hq, hb⟩]
    · rw [if_neg hb, if_neg (fun h => hb h.2)]
  refine less_law hok (hok.with s) ⟨withN_len _ _ _, fun q hq => ?_, fun q hq => ?_⟩ (fun q hq => ?_) (fun _ _ _ => ⟨Int.le_refl _, Int.le_refl _, rfl⟩) (Int.le_refl _) (Int.le_refl _) hj hst
  · rw [hr q hq]; split <;> rfl
  · rw [hr q hq]; split <;> rfl
  · rw [hr q hq]
    split
    · exact half_le (mains_ok hok.mok q hq).2.1.1
    · exact Int.le_refl _
/-- The junctions, the first i of them cut where no truth feeds them. -/
def CutTo (b : Int) (ms : List S54) (js yj : List S50) (i : Nat) : Prop := yj.length = js.length ∧ ∀ k, k < js.length → rd_T50 yj k = if k < i ∧ statusP ms k = 0 then cutJ b (rd_T50 js k) else rd_T50 js k
theorem cut_0 (b : Int) (ms : List S54) (js : List S50) : CutTo b ms js js 0 := ⟨rfl, fun k _ => by rw [if_neg (by omega)]⟩
theorem cut_yes {i : Nat} (h : CutTo b ms js yj i) (hi' : i < js.length) (hs : statusP ms i = 0) : CutTo b ms js (yj.set i ⟨⟨0, b⟩, (rd_T50 yj i).f1, (rd_T50 yj i).f2, b⟩) (i + 1) := by
  refine ⟨by rw [List.length_set]; exact h.1, fun k hk => ?_⟩
  rw [rd_set50 (by rw [h.1]; exact hi')]
  have hk2 := h.2 k hk
  by_cases e : k = i
  · subst e
    rw [if_neg (by omega)] at hk2
    rw [if_pos rfl, if_pos ⟨by omega, hs⟩, hk2]
    rfl
  · rw [if_neg e, hk2]
    by_cases h2 : k < i ∧ statusP ms k = 0
    · rw [if_pos h2, if_pos ⟨by omega, h2.2⟩]
    · rw [if_neg h2, if_neg (fun h3 => h2 ⟨by omega, h3.2⟩)]
theorem cut_no {i : Nat} (h : CutTo b ms js yj i) (hs : statusP ms i ≠ 0) : CutTo b ms js yj (i + 1) := by
  refine ⟨h.1, fun k hk => ?_⟩
  rw [h.2 k hk]
  by_cases h2 : k < i ∧ statusP ms k = 0
  · rw [if_pos h2, if_pos ⟨by omega, h2.2⟩]
  · rw [if_neg h2, if_neg (fun h3 => h2 ⟨by
      have : k ≠ i := fun e => by subst e; exact hs h3.2
      omega, h3.2⟩)]
theorem cut_case (hok : NetOk lo hi js ms) (hb : 0 ≤ b ∧ b ≤ 255) (h : CutTo b ms js yj js.length) {j : Nat} (hj : j ≤ ms.length) (hst : statusP ms j ≠ 0) : pressS lo hi yj ms j = (loP js ms lo j, hiP js ms hi j, 0) := by
  have hl := hok.ml
  refine cut_law hok ⟨hok.src, by rw [h.1]; exact hok.jl, by rw [h.1]; exact hok.ml, anyJ_of fun k hk => ?_, hok.mok⟩ (fun i hi' hs => ?_) hj hst
  · rw [h.1] at hk
    rw [h.2 k hk]
    have h2 := junction_ok hok.jok k
    split
    · rw [badJ_iff]
      unfold cutJ
      show (0 ≤ (0 : Int) ∧ 0 ≤ b ∧ b ≤ 1000000) ∧ _ ∧ (-1 ≤ b ∧ b ≤ 1099511627776)
      exact ⟨by omega, h2.2.1, by omega⟩
    · exact badJ_rd hok k
  · rw [h.2 i (by omega), if_neg (fun h3 => hs h3.2)]
theorem fed_at (hok : NetOk lo hi js ms) {i : Nat} (hi' : i < js.length) : fedS lo hi js ms (i : Int) = (statusP ms i, 0) := by
  unfold fedS
  rw [if_pos (netB_of_ok hok), if_pos (by
    simp only [withinB, Bool.and_eq_true, decide_eq_true_eq]
    omega), Int.toNat_natCast]
end
end Go.Proofs.Ytbjinkkmakhbaaa.Print
