/- The document's Tight. -/
import Derived.Test.YtalgbihpidpblaaT2
namespace Go.Proofs.Ytalgbihpidpblaa.Print
open Go.RowKit Go.Shelf Go.Proofs.YtalgbihpidpblaaW.PrintWords Go.Proofs.YtalgbihpidpblaaW.PrintLast Go.Proofs.YtalgbihpidpblaaW.PrintMore
attribute [local go_sem] max2_int min2_int max_two min_two
set_option linter.unusedVariables false
set_option linter.unusedSimpArgs false

theorem tru_len (l : List S47) : ∀ (r : List S47) (b : List Int), ∀ t ∈ truFrom l r b, t.length = l.length
  | [], b, t, h => by
    unfold truFrom at h
    split at h
    · rename_i hI
      obtain rfl : t = b := by simpa using h
      unfold isB at hI
      rw [Bool.and_eq_true] at hI
      exact inG_length l t ((inGb_iff l t).1 hI.1)
    · cases h
  | x :: r, b, t, h => by
    unfold truFrom at h
    obtain ⟨g, _, hg⟩ := List.mem_flatMap.1 h
    exact tru_len l r (b ++ [g]) t hg

def colStep (i : Int) (st : Int × Int) (t : List Int) : Int × Int := (min st.1 (rd t i), max st.2 (rd t i))
def colUp (i : Int) (t0 : List Int) (ls : List (List Int)) : Int × Int := ls.foldl (colStep i) (rd t0 i, rd t0 i)
theorem colUp_snoc (i : Int) (t0 : List Int) (ls : List (List Int)) (t : List Int) : colUp i t0 (ls ++ [t]) = colStep i (colUp i t0 ls) t := by simp [colUp]
def colAt (t0 : List Int) (ls : List (List Int)) (i : Nat) : S45 := ⟨(colUp i t0 ls).1, (colUp i t0 ls).2⟩
def tightRef (pl : Int) (l : List S47) : List S45 × Int :=
  if isPlantB pl l = true then (match truFrom l l [] with | [] => ([], 6) | t :: r => ((List.range l.length).map (colAt t (t :: r)), 0)) else ([], 1)

set_option maxHeartbeats 4000000 in
set_option maxRecDepth 100000 in
theorem Tight_early (pl : Int) (A : Option Addr) (c : Nat) (l : List S47) (w : World) (hr : Kd.C k47 w A l.length l) (hc : l.length ≤ c) (hcap : isPlantB pl l = true → cnt l ≤ 1099511627776) (he : isPlantB pl l = false ∨ truFrom l l [] = []) :
    Calls Try.prog 14 #[.agg #[.int .i64 pl, .slice A l.length c]] w (TightPost (tightRef pl l) w) := by
  have HR := Aside0.mk hr
  have HC := Aside0.mk hcap
  clear hr hcap
  unfold tightRef
  cases hp : isPlantB pl l with
  | false =>
    rw [if_neg (by decide)]
    have HP := Aside0.mk hp
    clear hp he
    go_enter Try.func14, Try.ntmps14
    go_wp2_with (go_at_call 23; refine (plant_call2 HP.out (Kd.C_below HR.out (below_alloc (Below.refl _ _) _)) hc).mono ?_; rintro e W1 ⟨rfl, hb⟩; have HB1 := Aside0.mk (bl_next (below_alloc (Below.refl w.heap.size w) _) hb); clear hb)
    go_ret2
    exact ⟨_, rfl, Kd.R_nil _ _ _ _ _, HB1.out⟩
  | true =>
    rw [if_pos rfl]
    have hC := HC.out hp
    have hT : truFrom l l [] = [] := by rcases he with h | h; (rw [hp] at h; cases h); exact h
    rw [hT]
    have HP := Aside0.mk hp
    have HT := Aside0.mk hT
    clear hp he hT
    go_enter Try.func14, Try.ntmps14
    go_wp2_with (first
      | (go_at_call 23; refine (plant_call2 HP.out (Kd.C_below HR.out (below_alloc (Below.refl _ _) _)) hc).mono ?_; rintro e W1 ⟨rfl, hb⟩; have HB1 := Aside0.mk (bl_next (below_alloc (Below.refl w.heap.size w) _) hb); have BP1 := Aside0.mk (blk_below (blk_new w (.cells #[.int .i64 pl, .slice A l.length c] 24)) hb); have s0 := cell_two BP1.out 0 rfl; have s1 := cell_two BP1.out 1 rfl; clear hb)
      | (go_at_call 30; refine (truths_top pl A c l HP.out w _ HR.out hc HB1.out hC).mono ?_; rintro e W2 ⟨v, rfl, hR, hb, _, _⟩; rw [HT.out] at hR; obtain ⟨A2, c2, rfl⟩ := Kd.R_slice hR; have HB2 := Aside0.mk hb; clear hR hb s0 s1))
    go_ret2
    exact ⟨_, rfl, Kd.R_nil _ _ _ _ _, HB2.out⟩
end Go.Proofs.Ytalgbihpidpblaa.Print
