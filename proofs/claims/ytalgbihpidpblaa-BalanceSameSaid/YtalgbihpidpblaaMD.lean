/- BalanceSame: the law, walked to its two new plants. -/
import Derived.Test.YtalgbihpidpblaaMC
namespace Go.Proofs.Ytalgbihpidpblaa.Print
open Go.RowKit Go.Shelf Go.Proofs.YtalgbihpidpblaaW.PrintWords Go.Proofs.YtalgbihpidpblaaW.PrintLast Go.Proofs.YtalgbihpidpblaaW.PrintMore
set_option linter.unusedVariables false
set_option linter.unusedSimpArgs false

theorem same_start {w W : World} {PB TB MB : Nat} {pl : Int} {A : Option Addr} {c : Nat} {l : List S47} {K : List S45} {kv : Value} {wl : List Int} {wv : Value} (V : World)
    (bp : W.heap[PB]? = some (.cells #[.int .i64 pl, .slice A l.length c] 24 (0, 0))) (kk : Kd.R k45 45 W w.heap.size (fun _ => True) kv K) (kw : Kd.R (Kd.int .i64) 3 W w.heap.size (fun _ => True) wv wl) (cc : Kd.C k47 w A l.length l) (bel : Below w.heap.size w W)
    (hTM : (TB = W.heap.size ∧ MB = W.heap.size + 1) ∨ (TB = W.heap.size + 1 ∧ MB = W.heap.size))
    (hV : V = (((W.alloc (.cells #[.int .i64 pl, .slice A l.length c] 24)).alloc (.cells #[.int .i64 pl, .slice A l.length c] 24)).drew.setCell ⟨TB, 1, none⟩ (.slice none 0 0))) :
    SameAt w V PB TB MB pl A c l K kv wl wv [] (.slice none 0 0) (.slice A l.length c) := by
  have hP := blk_lt bp
  have hW := bel.size
  obtain ⟨V0, h0⟩ : ∃ V0, V0 = ((W.alloc (.cells #[.int .i64 pl, .slice A l.length c] 24)).alloc (.cells #[.int .i64 pl, .slice A l.length c] 24)).drew := ⟨_, rfl⟩
  have b1 : V0.heap[W.heap.size]? = some (.cells #[.int .i64 pl, .slice A l.length c] 24 (0, 0)) := by
    rw [h0]; exact blk_drew (blk_alloc (blk_new W _) _)
  have b2 : V0.heap[W.heap.size + 1]? = some (.cells #[.int .i64 pl, .slice A l.length c] 24 (0, 0)) := by
    rw [h0]
    refine blk_drew ?_
    have := blk_new (W.alloc (.cells #[.int .i64 pl, .slice A l.length c] 24)) (.cells #[.int .i64 pl, .slice A l.length c] 24)
    simpa using this
  have b0 : V0.heap[PB]? = some (.cells #[.int .i64 pl, .slice A l.length c] 24 (0, 0)) := by
    rw [h0]; exact blk_drew (blk_alloc (blk_alloc bp _) _)
  have k1 : Kd.R k45 45 V0 w.heap.size (fun _ => True) kv K := by rw [h0]; exact Kd.R_drew (Kd.R_alloc (Kd.R_alloc kk _) _)
  have k2 : Kd.R (Kd.int .i64) 3 V0 w.heap.size (fun _ => True) wv wl := by rw [h0]; exact Kd.R_drew (Kd.R_alloc (Kd.R_alloc kw _) _)
  have be : Below w.heap.size w V0 := by rw [h0]; exact below_drew (below_alloc (below_alloc bel _) _)
  rw [← h0] at hV
  clear h0
  have bT : V0.heap[TB]? = some (.cells #[.int .i64 pl, .slice A l.length c] 24 (0, 0)) := by rcases hTM with ⟨rfl, rfl⟩ | ⟨rfl, rfl⟩ <;> assumption
  have bM : V0.heap[MB]? = some (.cells #[.int .i64 pl, .slice A l.length c] 24 (0, 0)) := by rcases hTM with ⟨rfl, rfl⟩ | ⟨rfl, rfl⟩ <;> assumption
  have tm : TB ≠ MB := by omega
  have pt : TB ≠ PB := by omega
  have gt : w.heap.size ≤ TB := by omega
  rw [hV]
  exact {
    bp := blk_set_ne b0 pt 1 _
    bt := blk_put bT 1 (.slice none 0 0) rfl
    bm := blk_set_ne bM tm 1 _
    pt := pt
    pm := by omega
    tm := tm
    gt := gt
    gm := by omega
    kk := Kd.R_set k1 bT (by decide) 1 _
    kw := Kd.R_set k2 bT (by decide) 1 _
    kt := Kd.R_nil _ _ _ _ _
    cc := Kd.C_below cc (be.setCell gt _)
    bel := be.setCell gt _ }
end Go.Proofs.Ytalgbihpidpblaa.Print
