/- The plant of some walks is valid. -/
import Derived.Test.YtalgbihpidpblaaM6
import Derived.Test.YtalgbihpidpblaaG3
namespace Go.Proofs.Ytalgbihpidpblaa.Print
open Go.RowKit Go.Shelf Go.Proofs.YtalgbihpidpblaaW.PrintWords Go.Proofs.YtalgbihpidpblaaW.PrintLast Go.Proofs.YtalgbihpidpblaaW.PrintMore
set_option linter.unusedVariables false
set_option linter.unusedSimpArgs false

/-! ### The plant of some walks is valid -/
def WkGood (pl : Int) (s : Wk) : Prop := (0 ≤ s.at_ ∧ s.at_ < pl) ∧ (0 ≤ s.n ∧ s.n ≤ 65535) ∧ s.tr.length ≤ 16 ∧ s.fl.length = s.tr.length ∧ GoodL pl s.fl
theorem put_good (pl : Int) (wd : List Int) (s : Wk) (x : Int) (hs : WkGood pl s) (hx : 0 ≤ x ∧ x < pl) (hw : upB 255 wd = true) (hl : 0 < wd.length) : WkGood pl (putS wd s x) := by
  obtain ⟨h1, h2, h3, h4, h5⟩ := hs
  unfold putS
  split
  · rename_i h
    refine ⟨hx, h2, by simp; omega, by simp [h4], ?_⟩
    intro y hy
    rcases List.mem_append.1 hy with hy | hy
    · exact h5 y hy
    · obtain rfl := List.mem_singleton.1 hy
      have w0 : ∀ z : Int, 0 ≤ wdAt wd z ∧ wdAt wd z ≤ 255 := fun z => up_rd hw _ (Int.emod_nonneg _ (by omega)) (Int.emod_lt_of_pos _ (by omega))
      have a0 := w0 s.tr.length
      have hh : 0 ≤ hiOf wd s.tr.length ∧ hiOf wd s.tr.length ≤ 100000 := by
        unfold hiOf
        split <;> omega
      have hm : mx 0 (s.n - wdAt wd s.tr.length % 16) = max 0 (s.n - wdAt wd s.tr.length % 16) := by unfold mx; split <;> omega
      unfold goodF
      rw [hm]
      refine ⟨h1.1, h1.2, hx.1, hx.2, fun e => h.1 e.symm, ?_, ?_, ?_⟩
      · show 0 ≤ max 0 (s.n - wdAt wd s.tr.length % 16); omega
      · show max 0 (s.n - wdAt wd s.tr.length % 16) ≤ s.n + hiOf wd s.tr.length; omega
      · show s.n + hiOf wd s.tr.length ≤ 1073741824; omega
  · exact ⟨hx, h2, h3, h4, h5⟩
theorem go_good (pl : Int) (st gs wd : List Int) (hpl : 2 ≤ pl) (hs : upB 255 st = true) (hg : upB 65535 gs = true) (hw : upB 255 wd = true) (lg : 0 < gs.length) (lw : 0 < wd.length) : ∀ (d i : Nat) (b : Int) (s : Wk), i + d ≤ st.length → WkGood pl s → (0 ≤ b ∧ b < pl) →
    (walkGo pl st gs wd d i b s).2.length ≤ 16 ∧ (walkGo pl st gs wd d i b s).1.length = (walkGo pl st gs wd d i b s).2.length ∧ GoodL pl (walkGo pl st gs wd d i b s).1
  | 0, i, b, s, h, hk, hb => by
    have := put_good pl wd s b hk hb hw lw
    exact ⟨this.2.2.1, this.2.2.2.1, this.2.2.2.2⟩
  | d + 1, i, b, s, h, hk, hb => by
    have hp := put_good pl wd s b hk hb hw lw
    have x0 : 0 ≤ rd st i % pl ∧ rd st i % pl < pl := ⟨Int.emod_nonneg _ (by omega), Int.emod_lt_of_pos _ (by omega)⟩
    have g0 := up_rd hg ((i : Int) % (gs.length : Int)) (Int.emod_nonneg _ (by omega)) (Int.emod_lt_of_pos _ (by omega))
    rw [walkGo]
    split
    · split
      · exact ⟨hp.2.2.1, hp.2.2.2.1, hp.2.2.2.2⟩
      · exact go_good pl st gs wd hpl hs hg hw lg lw d (i + 1) _ _ (by omega) ⟨x0, g0, hp.2.2.1, hp.2.2.2.1, hp.2.2.2.2⟩ x0
    · split
      · exact go_good pl st gs wd hpl hs hg hw lg lw d (i + 1) _ _ (by omega) (put_good pl wd s _ hk x0 hw lw) hb
      · exact go_good pl st gs wd hpl hs hg hw lg lw d (i + 1) _ _ (by omega) hk hb

end Go.Proofs.Ytalgbihpidpblaa.Print
