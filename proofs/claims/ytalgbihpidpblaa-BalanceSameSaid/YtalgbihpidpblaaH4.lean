/- The iterator over all sets of places, and the first set that shows that there is no truth. -/
import Derived.Test.YtalgbihpidpblaaH3
import Derived.RangeFuncNested
import Derived.RangeFuncBound
import Derived.RangeFuncCalls
import Derived.RangeFuncLeaves
import Derived.RangeFuncFrom
import Derived.Shelf.Abstract
import Derived.Shelf.RegionOpen
import Derived.OwnWalkIn
import Derived.TacticsInMore
import Derived.LoopNIn
import Derived.LoopIn
namespace Go.Proofs.Ytalgbihpidpblaa.Print
open Go.RowKit Go.Shelf Go.Proofs.YtalgbihpidpblaaW.PrintWords Go.Proofs.YtalgbihpidpblaaW.PrintLast Go.Proofs.YtalgbihpidpblaaW.PrintMore
set_option linter.unusedVariables false
set_option linter.unusedSimpArgs false
attribute [local go_sem] Oper.semAt_some

/-- All sets of places, rising. -/
def setsL (pl : Int) : List Int := (List.range (2 ^ pl.toNat)).map fun n : Nat => (n : Int)
theorem setsL_length (pl : Int) : (setsL pl).length = 2 ^ pl.toNat := by simp [setsL]
theorem setsL_take (pl : Int) (s : Nat) (h : s < 2 ^ pl.toNat) : (setsL pl).take (s + 1) = (setsL pl).take s ++ [(s : Int)] := by
  have hl : s < (setsL pl).length := by rw [setsL_length]; exact h
  rw [List.take_succ_eq_append_getElem hl]
  simp [setsL]

/-- What a round of the loop must keep: the plant that the iterator reads. -/
def KpB (Bn : Nat) (W W' : World) : Prop := ∀ o, W'.cell? ⟨Bn, o, none⟩ = W.cell? ⟨Bn, o, none⟩
abbrev encS (s : Int) : Array Value := #[.int .u64 s]

set_option maxHeartbeats 2000000 in
set_option maxRecDepth 100000 in
theorem sets_stops (F : Fence) (n : Nat) (h56 : F.fn 56) (hro : F.round = none) (hn : 1 ≤ n) (Bn : Nat) (pl : Int) (w : World) (h2 : 2 ≤ pl) (h8 : pl ≤ 8) (hB : Bn < w.heap.size) (hc : w.cell? ⟨Bn, 0, none⟩ = some (.int .i64 pl)) :
    SeqStopsK F n Try.prog 56 #[.pointer (some ⟨Bn, 0, none⟩)] encS (KpB Bn) (fun xs => xs = setsL pl) (fun pre => ∃ s : Nat, s < 2 ^ pl.toNat ∧ pre = (setsL pl).take (s + 1)) (2 ^ pl.toNat) w := fun l J Jx W hW hJ hJx hY h0 => by
  refine callsIn_of_wp Try.func56 rfl h56 ?_ hro
  simp only [Try.ntmps56, List.size_toArray, List.length_cons, List.length_nil, Nat.reduceAdd, Nat.reduceSub, Array.replicate_succ, Array.replicate_zero, List.push_toArray, List.append_toArray, List.nil_append, List.cons_append]
  have hcW : W.cell? ⟨Bn, 0, none⟩ = some (.int .i64 pl) := (hW.cell (p := ⟨Bn, 0, none⟩) hB).trans hc
  have HK := Aside0.mk hY
  clear hY hJ hJx hc
  obtain ⟨M, hM⟩ : ∃ M : Nat, M = 2 ^ pl.toNat := ⟨_, rfl⟩
  obtain ⟨L, hL⟩ : ∃ L, L = setsL pl := ⟨_, rfl⟩
  have HLL : Aside0 (L.length = M) := ⟨by rw [hL, hM, setsL_length]⟩
  have HT : Aside0 (∀ s, s < M → L.take (s + 1) = L.take s ++ [(s : Int)]) := ⟨fun s h => by rw [hL]; exact setsL_take pl s (by rw [← hM]; exact h)⟩
  have HM := Aside0.mk hM
  rw [← hM] at HK
  have HE : Aside0 (∀ W', ((∃ xs, xs = L ∧ J xs W') ∨ ∃ pre, (∃ s, s < M ∧ pre = L.take (s + 1)) ∧ Jx pre W') → ((∃ xs, xs = setsL pl ∧ J xs W') ∨ ∃ pre, (∃ s, s < 2 ^ pl.toNat ∧ pre = (setsL pl).take (s + 1)) ∧ Jx pre W')) :=
    ⟨fun W' h => by rw [← hL, ← hM]; exact h⟩
  clear hL
  rcases (by omega : pl = 2 ∨ pl = 3 ∨ pl = 4 ∨ pl = 5 ∨ pl = 6 ∨ pl = 7 ∨ pl = 8) with rfl | rfl | rfl | rfl | rfl | rfl | rfl
  all_goals
    simp only [Int.reduceToNat, Nat.reducePow] at hM
    gi_wp2
    gi_loopw [3] (fun p wr => ∃ s : Nat, p = .int .u64 s ∧ s ≤ M ∧ Aside0 (wr.cell? ⟨Bn, 0, none⟩ = W.cell? ⟨Bn, 0, none⟩) ∧ Aside0 (J (L.take s) wr)) (fun p _ => M - (intOf p).toNat)
    case atStart => exact ⟨0, rfl, by omega, ⟨rfl⟩, ⟨h0⟩⟩
    case round =>
      obtain ⟨s, rfl, hs, HC, HJ⟩ := hrel
      have hcw := HC.out.trans hcW
      by_cases hlt : s < M
      · obtain ⟨fn, tmps, assign, body, hy, hR⟩ := HK.out _ (s : Int) wr HJ.out (by rw [List.length_take, HLL.out]; omega)
        try unfold encS at hy
        rw [← HT.out s hlt] at hR
        have HR := Aside0.mk hR
        clear hR
        subst hM
        gi_wp2
        refine HR.out.mono ?_
        rintro e W' (⟨rfl, hJ', hk⟩ | ⟨rfl, hJx'⟩)
        · have HJ' := Aside0.mk hJ'
          clear hJ'
          have HK' := Aside0.mk hk
          clear hk
          gi_wp2
          go_roundw
          case rel => exact ⟨s + 1, by go_num, by omega, ⟨(HK'.out 0).trans HC.out⟩, HJ'⟩
          case measure => simp [intOf]; omega
        · have HJ' := Aside0.mk hJx'
          clear hJx'
          gi_wp2
          refine bodyPost_ret (results_none rfl _ _ _) rfl ?_
          exact ⟨⟨_, rfl⟩, HE.out _ (.inr ⟨_, ⟨s, hlt, rfl⟩, HJ'.out⟩)⟩
      · have e : s = M := by omega
        rw [e, List.take_of_length_le (by rw [HLL.out]; exact Nat.le_refl _)] at HJ
        have hge : decide ((s : Int) < M) = false := decide_eq_false (by omega)
        clear e
        subst hM
        gi_wp2
        go_end0
        exact ⟨⟨_, rfl⟩, HE.out _ (.inl ⟨_, rfl, HJ.out⟩)⟩
end Go.Proofs.Ytalgbihpidpblaa.Print
