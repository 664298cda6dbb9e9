/- BalanceProofs: the law's function is true of every plant and flow. -/
import Derived.Test.YtalgbihpidpblaaM7
import Derived.Test.YtalgbihpidpblaaP4
namespace Go.Proofs.Ytalgbihpidpblaa.Print
open Go.RowKit Go.Shelf Go.Proofs.YtalgbihpidpblaaW.PrintWords Go.Proofs.YtalgbihpidpblaaW.PrintLast Go.Proofs.YtalgbihpidpblaaW.PrintMore
set_option linter.unusedVariables false
set_option linter.unusedSimpArgs false

theorem drop_sets (pl : Int) (i : Nat) (h : i < 2 ^ pl.toNat) : (setsL pl).drop i = (i : Int) :: (setsL pl).drop (i + 1) := by
  have hl : i < (setsL pl).length := by rw [setsL_length]; exact h
  rw [List.drop_eq_getElem_cons hl]
  simp [setsL]

/-- Does a set prove this end, as the document says it? -/
def docProves (m : Bool) (l : List S47) (k : Int) (t : S45) (s : Int) : Bool := intoF s (rd_T47 l k) && (if m then (endsS s k l).2 == t.f1 else (endsS s k l).1 == t.f0)
def listOr (o : Option Int) : List Int × Int := match o with | some s => (listS s, 0) | none => ([], 4)

def whyBody (n : Nat) (pl : Int) (l : List S47) (k : Nat) (m : Bool) (tl : List S45) (i : Nat) (t : Int) : Option (List Int × Int) := if (i : Int) < t then ((gasworksref04_Ends.f n pl l i k).bind fun bt => (if (0 : Int) ≤ (k : Int) then (if (k : Int) < (l.length : Int) then ((gasworksref04_Into.f n ((rd_T47 l k).f0) ((rd_T47 l k).f1) ((rd_T47 l k).f2.f0) ((rd_T47 l k).f2.f1) i).bind fun t223 => (if t223 = true then (if m = true then (if (k : Int) < (tl.length : Int) then (if bt.2 = ((rd_T45 tl k).f1) then (gasworksref04_Why.j2 n k m tl i true pl l) else (gasworksref04_Why.j2 n k m tl i false pl l)) else (none)) else (if (k : Int) < (tl.length : Int) then (gasworksref04_Why.j2 n k m tl i (bt.1 == ((rd_T45 tl k).f0)) pl l) else (none))) else (gasworksref04_Why.j2 n k m tl i false pl l))) else (none)) else (none))) else some (([] : List Int), (4 : Int))
theorem why_l0 (n : Nat) (pl : Int) (l : List S47) (k : Nat) (m : Bool) (tl : List S45) (i : Nat) : gasworksref04_Why.l0 (n + 1) k m tl i pl l = (gasworksref04_sets.f n pl l).bind (whyBody n pl l k m tl i) := by
  rw [gasworksref04_Why.l0]
  rfl
theorem why_go (pl : Int) (l : List S47) (hp : isPlantB pl l = true) (k : Nat) (hk : k < l.length) (m : Bool) (tl : List S45) (ht : tl.length = l.length) : ∀ (d i : Nat), i + d = 2 ^ pl.toNat →
    Ev (fun n => gasworksref04_Why.l0 n k m tl i pl l) (listOr (((setsL pl).drop i).find? (docProves m l k (rd_T45 tl k))))
  | 0, i, h => by
    have h8 := (plant_of pl l hp).2.1
    rw [List.drop_of_length_le (by rw [setsL_length]; omega)]
    refine Ev.step (fun n => why_l0 n pl l k m tl i) (Ev.bind (sets_ev pl l (plant_of pl l hp).1 h8) ?_)
    exact Ev.congr (fun n => if_neg (by omega)) (Ev.now _)
  | d + 1, i, h => by
    have h8 := (plant_of pl l hp).2.1
    have h256 := pow_le pl h8
    have hgx : goodF pl (rd_T47 l k) := rd_good pl l (plant_of pl l hp).2.2.2 _ (by omega) (by omega)
    have hi : i < 2 ^ pl.toNat := by omega
    have ih := why_go pl l hp k hk m tl ht d (i + 1) (by omega)
    have c0 : (0 : Int) ≤ (k : Int) := by omega
    have c1 : (k : Int) < (l.length : Int) := by omega
    have c2 : (k : Int) < (tl.length : Int) := by omega
    have ew : wrap64 ((i : Int) + 1) = ((i + 1 : Nat) : Int) := (w64 (by omega) (by omega)).trans (by omega)
    rw [drop_sets pl i hi]
    have j2 : Ev (fun n => gasworksref04_Why.j2 n k m tl i (docProves m l k (rd_T45 tl k) i) pl l) (listOr (((i : Int) :: (setsL pl).drop (i + 1)).find? (docProves m l k (rd_T45 tl k)))) := by
      cases hb : docProves m l k (rd_T45 tl k) i with
      | true =>
        rw [List.find?_cons_of_pos hb]
        refine Ev.step (f := fun n => (gasworksref04_list.f n i).bind fun t => some (t, 0)) (fun n => ?_) (Ev.bind (list_ev i (by omega) (by omega)) (Ev.now _))
        rw [gasworksref04_Why.j2, if_pos rfl]
      | false =>
        rw [List.find?_cons_of_neg (by rw [hb]; decide)]
        refine Ev.step (fun n => ?_) ih
        rw [gasworksref04_Why.j2, if_neg (by decide), ew]
    refine Ev.step (fun n => why_l0 n pl l k m tl i) (Ev.bind (sets_ev pl l (plant_of pl l hp).1 h8) ?_)
    · refine Ev.congr (fun n => if_pos (by omega)) (Ev.bind (ends_ev pl i k l hp (by omega) (by omega)) ?_)
      refine Ev.congr (fun n => (if_pos c0).trans (if_pos c1)) (Ev.bind (into_ev pl i _ _ _ hgx h8 (by omega) (by omega)) ?_)
      unfold docProves at j2 ⊢
      cases hI : intoF i (rd_T47 l k) with
      | false =>
        rw [hI] at j2
        exact Ev.congr (fun n => if_neg (by decide)) (by simpa using j2)
      | true =>
        rw [hI] at j2
        refine Ev.congr (fun n => if_pos rfl) ?_
        cases m with
        | true =>
          refine Ev.congr (fun n => (if_pos rfl).trans (if_pos c2)) ?_
          by_cases hq : (endsS i k l).2 = (rd_T45 tl k).f1
          · refine Ev.congr (fun n => if_pos hq) ?_
            simpa [hq] using j2
          · refine Ev.congr (fun n => if_neg hq) ?_
            have hqb := beq_eq_false_iff_ne.2 hq
            simpa [hqb] using j2
        | false =>
          refine Ev.congr (fun n => (if_neg (by decide)).trans (if_pos c2)) ?_
          simpa using j2

theorem doc_says (m : Bool) (l : List S47) (k : Nat) (hk : k < l.length) (t : S45) (s : Int) : docProves m l k t s = proves m l k (if m then t.f1 else t.f0) s := by
  unfold docProves proves
  cases hI : intoF s (rd_T47 l k) with
  | false =>
    unfold intoF at hI
    rw [Bool.and_comm] at hI
    rw [hI]
    rfl
  | true =>
    have := ends_says l k s hk hI
    unfold intoF at hI
    rw [Bool.and_comm] at hI
    rw [hI]
    cases m
    · simp [this.1]
    · simp [this.2]

theorem tight_len (pl : Int) (l : List S47) : (tightL pl l).length = l.length := by simp [tightL]
theorem tight_rd (pl : Int) (l : List S47) (k : Nat) (hk : k < l.length) : rd_T45 (tightL pl l) k = ⟨(boundS false pl l k).1, (boundS true pl l k).1⟩ := by
  simp [rd_T45, tightL, tightAt, List.getD_eq_getElem?_getD, hk]

theorem why_j0 (pl : Int) (l : List S47) (hp : isPlantB pl l = true) (k : Nat) (hk : k < l.length) (m : Bool) :
    Ev (fun n => gasworksref04_Why.j0 n k m (tightL pl l) ((boundS m pl l k).1 == (if m then (rd_T47 l k).f2.f1 else (rd_T47 l k).f2.f0)) pl l) (if (boundS m pl l k).2.2 = true then (listS (boundS m pl l k).2.1, 0) else ([], 4)) := by
  rcases bound_first m pl l k with ⟨h1, h2⟩ | ⟨h1, h2, h3⟩
  · rw [h2, beq_self_eq_true, h1, if_neg (by decide)]
    refine Ev.step (f := fun _ => some ([], 4)) (fun n => ?_) (Ev.now _)
    rw [gasworksref04_Why.j0, if_pos rfl]
  · have e : ((boundS m pl l k).1 == (if m then (rd_T47 l k).f2.f1 else (rd_T47 l k).f2.f0)) = false := beq_eq_false_iff_ne.2 h2
    rw [e, h1, if_pos rfl]
    refine Ev.step (f := fun n => gasworksref04_Why.l0 n k m (tightL pl l) (0 : Nat) pl l) (fun n => ?_) ?_
    · rw [gasworksref04_Why.j0, if_neg (by decide)]; rfl
    · have := why_go pl l hp k hk m (tightL pl l) (tight_len pl l) (2 ^ pl.toNat) 0 (by omega)
      have hf : docProves m l k (rd_T45 (tightL pl l) k) = proves m l k (boundS m pl l k).1 := by
        funext s
        rw [doc_says m l k hk, tight_rd pl l k hk]
        cases m <;> rfl
      rw [List.drop_zero, hf, h3] at this
      exact this

theorem in_f (a b c : Int) : gasworksref04_in.f a b c = some (withinB a b c) := by
  unfold gasworksref04_in.f withinB
  by_cases h : b ≤ a
  · rw [if_pos h, decide_eq_true h, Bool.true_and]
  · rw [if_neg h, decide_eq_false h, Bool.false_and]

theorem why_ref (pl : Int) (l : List S47) (k : Int) (m : Bool) (hcap : isPlantB pl l = true → cnt l ≤ 8000) : Ev (fun n => gasworksref04_Why.f n pl l k m) (whyS pl l k m) := by
  unfold gasworksref04_Why.f whyS
  refine Ev.bind (plant_ev pl l) ?_
  by_cases hp : isPlantB pl l = true
  · have h16 := (plant_of pl l hp).2.2.1
    have hn1 : errS pl l ≠ 1 := by unfold errS; rw [if_pos hp]; split <;> decide
    have ew : wrap64 ((l.length : Int) - 1) = (l.length : Int) - 1 := w64 (by omega) (by omega)
    rw [hp, if_neg hn1, ew, in_f]
    refine Ev.congr (fun n => (if_pos rfl).trans (Option.bind_some _ _)) ?_
    cases hw : withinB k 0 ((l.length : Int) - 1) with
    | false =>
      rw [if_pos rfl]
      exact Ev.congr (fun n => if_neg (by decide)) (Ev.now _)
    | true =>
      rw [if_neg (by decide)]
      have hk : 0 ≤ k ∧ k < l.length := by
        unfold withinB at hw
        rw [Bool.and_eq_true, decide_eq_true_eq, decide_eq_true_eq] at hw
        omega
      obtain ⟨k, rfl⟩ := Int.eq_ofNat_of_zero_le hk.1
      have hk' : k < l.length := by omega
      have e2 : gasworksref04_Tight.f pl l = some (tightS pl l) := by
        rw [← tight_ref]
        exact if_neg (fun h => by have := hcap h.1; omega)
      rw [e2]
      refine Ev.congr (fun n => (if_pos rfl).trans (Option.bind_some _ _)) ?_
      rcases err_ok pl l hp with ⟨he, hc⟩ | ⟨he, hc⟩
      · have et : tightS pl l = (tightL pl l, 0) := by unfold tightS; rw [if_pos he]
        rw [et, he, if_neg (by decide)]
        have c0 : (0 : Int) ≤ (k : Int) := by omega
        have c1 : (k : Int) < (l.length : Int) := by omega
        have c2 : (k : Int) < ((tightL pl l).length : Int) := by rw [tight_len]; exact c1
        have hj := why_j0 pl l hp k hk' m
        refine Ev.congr (fun n => (if_pos rfl).trans ((if_pos c0).trans (if_pos c1))) ?_
        cases m with
        | true =>
          refine Ev.congr (fun n => (if_pos rfl).trans (if_pos c2)) ?_
          rw [tight_rd pl l k hk']
          by_cases hq : (boundS true pl l k).1 = (rd_T47 l k).f2.f1
          · refine Ev.congr (fun n => if_pos hq) ?_
            simpa [hq] using hj
          · refine Ev.congr (fun n => if_neg hq) ?_
            have hqb := beq_eq_false_iff_ne.2 hq
            simpa [hqb] using hj
        | false =>
          refine Ev.congr (fun n => (if_neg (by decide)).trans (if_pos c2)) ?_
          rw [tight_rd pl l k hk']
          simpa using hj
      · have et : tightS pl l = ([], 6) := by unfold tightS; rw [he]; rfl
        rw [et, he, if_pos rfl]
        exact Ev.congr (fun n => if_neg (by decide)) (Ev.now _)
  · have he : errS pl l = 1 := by unfold errS; rw [if_neg hp]
    have hp' : isPlantB pl l = false := by simpa using hp
    rw [hp', he, if_pos rfl]
    exact Ev.congr (fun n => if_neg (by decide)) (Ev.now _)

theorem wrong_go (pl : Int) (l : List S47) (hp : isPlantB pl l = true) : ∀ (d i : Nat), i + d = 2 ^ pl.toNat →
    Ev (fun n => gasworksref04_Wrong.l0 n i pl l) (listOr (((setsL pl).drop i).find? (wrongB l)))
  | 0, i, h => by
    have h8 := (plant_of pl l hp).2.1
    rw [List.drop_of_length_le (by rw [setsL_length]; omega)]
    refine Ev.step (f := fun n => (gasworksref04_sets.f n pl l).bind fun t => if (i : Int) < t then ((gasworksref04_Ends.f n pl l i (-1)).bind fun bt => (if bt.2 < 0 then ((gasworksref04_list.f n i).bind fun t => (some (t, 0))) else (gasworksref04_Wrong.l0 n (wrap64 ((i : Int) + 1)) pl l))) else some (([] : List Int), (4 : Int))) (fun n => ?_) (Ev.bind (sets_ev pl l (plant_of pl l hp).1 h8) ?_)
    · rw [gasworksref04_Wrong.l0]
    · exact Ev.congr (fun n => if_neg (by omega)) (Ev.now _)
  | d + 1, i, h => by
    have h8 := (plant_of pl l hp).2.1
    have h256 := pow_le pl h8
    have hi : i < 2 ^ pl.toNat := by omega
    have ih := wrong_go pl l hp d (i + 1) (by omega)
    have ew : wrap64 ((i : Int) + 1) = ((i + 1 : Nat) : Int) := (w64 (by omega) (by omega)).trans (by omega)
    rw [drop_sets pl i hi]
    refine Ev.step (f := fun n => (gasworksref04_sets.f n pl l).bind fun t => if (i : Int) < t then ((gasworksref04_Ends.f n pl l i (-1)).bind fun bt => (if bt.2 < 0 then ((gasworksref04_list.f n i).bind fun t => (some (t, 0))) else (gasworksref04_Wrong.l0 n ((i + 1 : Nat) : Int) pl l))) else some (([] : List Int), (4 : Int))) (fun n => ?_) (Ev.bind (sets_ev pl l (plant_of pl l hp).1 h8) ?_)
    · rw [gasworksref04_Wrong.l0, ew]
    · refine Ev.congr (fun n => if_pos (by omega)) (Ev.bind (ends_ev pl i (-1) l hp (by omega) (by omega)) ?_)
      have hw := ends_wrong l i
      by_cases hn : (endsS i (-1) l).2 < 0
      · rw [decide_eq_true hn] at hw
        rw [List.find?_cons_of_pos hw.symm]
        exact Ev.congr (fun n => if_pos hn) (Ev.bind (list_ev i (by omega) (by omega)) (Ev.now _))
      · rw [decide_eq_false hn] at hw
        rw [List.find?_cons_of_neg (by rw [← hw]; decide)]
        exact Ev.congr (fun n => if_neg hn) ih

theorem wrong_ref (pl : Int) (l : List S47) (hcap : isPlantB pl l = true → cnt l ≤ 8000) : Ev (fun n => gasworksref04_Wrong.f n pl l) (wrongS pl l) := by
  unfold gasworksref04_Wrong.f wrongS
  have e1 : gasworksref04_Truth.f pl l = some (truRef pl l) := if_neg (fun h => by have := hcap h.1; omega)
  rw [e1]
  refine Ev.congr (fun n => Option.bind_some _ _) ?_
  by_cases hp : isPlantB pl l = true
  · rw [if_pos hp]
    rcases tru_all pl l hp with ⟨he, hc, q, hT⟩ | ⟨he, hc, hT⟩
    · have et : truRef pl l = (truthL pl l l.length, 0) := by unfold truRef; rw [if_pos hp, hT]
      have hn : ((setsL pl).find? (wrongB l)).isSome = false := by
        cases hf : (setsL pl).find? (wrongB l) with
        | none => rfl
        | some s =>
          have := List.find?_some hf
          rw [none_of_cut l hc s] at this
          cases this
      rw [et, hn, if_neg (by decide)]
      exact Ev.congr (fun n => (if_neg (show ¬ (0 : Int) = 1 by decide)).trans (if_pos rfl)) (Ev.now _)
    · have et : truRef pl l = ([], 6) := by unfold truRef; rw [if_pos hp, hT]
      have hs : ((setsL pl).find? (wrongB l)).isSome = true := by
        unfold errS at he
        rw [if_pos hp] at he
        by_cases h : ((setsL pl).find? (wrongB l)).isSome = true
        · exact h
        · rw [if_neg h] at he
          cases he
      rw [et, hs, if_pos rfl]
      refine Ev.congr (fun n => (if_neg (by decide)).trans (if_neg (by decide))) ?_
      have := wrong_go pl l hp (2 ^ pl.toNat) 0 (by omega)
      rw [List.drop_zero] at this
      obtain ⟨s, hs⟩ := Option.isSome_iff_exists.1 hs
      rw [hs] at this ⊢
      exact this
  · have et : truRef pl l = ([], 1) := by unfold truRef; rw [if_neg hp]
    rw [et, if_neg hp]
    exact Ev.congr (fun n => if_pos rfl) (Ev.now _)

theorem list8 (s : Int) : (listS s).length ≤ 1000000 := Nat.le_trans (list_len s) (by decide)
theorem whyS_len (pl : Int) (l : List S47) (k : Int) (m : Bool) : (whyS pl l k m).1.length ≤ 1000000 := by
  unfold whyS
  split
  · simp
  · split
    · simp
    · split
      · simp
      · split
        · exact list8 _
        · simp
theorem wrongS_len (pl : Int) (l : List S47) : (wrongS pl l).1.length ≤ 1000000 := by
  unfold wrongS
  split
  · split
    · exact list8 _
    · simp
  · simp

theorem proofs_law (pl : Int) (l : List S47) (k : Int) (m : Bool) : Ev (fun n => gasworkslaw04_BalanceProofs.f n pl l k m) true := by
  obtain ⟨b, hb, hc⟩ := large_ev pl l
  unfold gasworkslaw04_BalanceProofs.f
  refine Ev.bind hb ?_
  cases b with
  | true => exact Ev.congr (fun k => if_pos rfl) (Ev.now true)
  | false =>
    have e3 : Ev (fun n => balance_Wrong.f n pl l) (wrongS pl l) := Ev.of (fun _ => balance_Wrong.mono _ _ _) (wrong_eq pl l)
    have same : ∀ a : List Int, a.length ≤ 1000000 → Ev (fun n => gasworksref04_Ints.f n a a) true := fun a ha => by
      have := ints_ev a a ha
      simpa using this
    refine Ev.congr (fun k => (if_neg (by decide)).trans (Option.bind_some _ _)) (Ev.bind (why_ref pl l k m (hc rfl)) (Ev.bind e3 (Ev.bind (wrong_ref pl l (hc rfl)) (Ev.bind (same _ (whyS_len pl l k m)) ?_))))
    refine Ev.congr (fun k => (if_pos rfl).trans (if_pos rfl)) (Ev.bind (same _ (wrongS_len pl l)) ?_)
    exact Ev.congr (fun k => (if_pos rfl).trans (if_pos rfl)) (Ev.now true)

theorem BalanceProofs_walk (pl : Int) (A : Option Addr) (c : Nat) (l : List S47) (k : Int) (m : Bool) (w : World) (hr : Kd.C k47 w A l.length l) (hc : l.length ≤ c) (_hw : (Lit.int .i64 k).wf = true) :
    Calls Try.prog 4 #[.agg #[.int .i64 pl, .slice A l.length c], .int .i64 k, .bool m] w fun e w' => e = .returned (.bool true) ∧ Below w.heap.size w w' := by
  obtain ⟨n, hn⟩ := (proofs_law pl l k m).rounds
  exact gasworkslaw04_BalanceProofs.calls n pl A c l k m true w hr hc hn rfl
end Go.Proofs.Ytalgbihpidpblaa.Print
